/- The lifted walk, part w: structs compared, functions called through a slot, guarded operations by cases, results with several parts. No condition. -/
import Derived.Test.YtdlpmcjpbcbbjaaDoorTt
import Derived.ChangeKeysEq
namespace Go.Proofs.YtdlpmcjpbcbbjaaDoor.T
open Go
set_option linter.unusedVariables false
set_option linter.unusedSimpArgs false

section
variable {P : Program} {w0 : World} {g0 : Gh} {st : St}

/- STRUCTS OF PLAIN CELLS, COMPARED -/
def eqV : Value → Value → Bool
  | .bool a, .bool b => a == b
  | .int _ a, .int _ b => a == b
  | .string a, .string b => a.toList == b.toList
  | _, _ => false
def eqVs : List Value → List Value → Bool
  | [], [] => true
  | x :: xs, y :: ys => eqV x y && eqVs xs ys
  | _, _ => false
def kindOk (P : Program) (t : TypeId) : Value → Value → Bool
  | .bool _, .bool _ => match P.underlying t with | some .bool => true | _ => false
  | .int k _, .int k' _ => match P.underlying t with | some (.int _) => decide (k = k') | _ => false
  | .string _, .string _ => match P.underlying t with | some .string => true | _ => false
  | _, _ => false
def fieldsOk (P : Program) : Nat → List Field → List Value → List Value → Bool
  | _, [], [], [] => true
  | i, f :: fs, x :: xs, y :: ys => f.name != "_" && f.offset == i && kindOk P f.type x y && fieldsOk P (i + 1) fs xs ys
  | _, _, _, _ => false

theorem kindOk_run {t : TypeId} {x y : Value} (h : kindOk P t x y = true) (d : Nat) (w : World) : (Op.equalIn (d + 1) t x y).run P w = .ok (eqV x y) w ∧ (isAgg t).run P w = .ok false w := by
  unfold kindOk at h
  split at h
  · split at h
    · rename_i hu
      exact ⟨run_equalIn_bool' w d t _ _ hu, run_isAgg' (by simp [aggT, hu]) w⟩
    · cases h
  · split at h
    · rename_i hu
      have := of_decide_eq_true h
      subst this
      exact ⟨run_equalIn_int w d t _ _ _ _ hu, run_isAgg' (by simp [aggT, hu]) w⟩
    · cases h
  · split at h
    · rename_i hu
      exact ⟨run_equalIn_string w d t _ _ hu, run_isAgg' (by simp [aggT, hu]) w⟩
    · cases h
  · cases h

theorem fieldsOk_run (w : World) (d : Nat) : ∀ (fs : List Field) (i : Nat) (xs ys xs0 ys0 : List Value), fieldsOk P i fs xs ys = true → xs0.drop i = xs → ys0.drop i = ys →
    (Op.eqFields (d + 1) xs0.toArray ys0.toArray fs).run P w = .ok (eqVs xs ys) w
  | [], i, xs, ys, xs0, ys0, h, hx, hy => by
    cases xs with
    | nil =>
      cases ys with
      | nil => simp [Op.eqFields, eqVs]
      | cons y ys => cases h
    | cons x xs => cases h
  | f :: fs, i, xs, ys, xs0, ys0, h, hx, hy => by
    cases xs with
    | nil => cases h
    | cons x xs =>
      cases ys with
      | nil => cases h
      | cons y ys =>
        simp only [fieldsOk, Bool.and_eq_true, bne_iff_ne, ne_eq, beq_iff_eq] at h
        obtain ⟨⟨⟨h1, h2⟩, h3⟩, h4⟩ := h
        obtain ⟨h5, h6⟩ := kindOk_run (P := P) h3 d w
        have gx : xs0[i]? = some x := by
          have := congrArg (·[0]?) hx
          simpa using this
        have gy : ys0[i]? = some y := by
          have := congrArg (·[0]?) hy
          simpa using this
        have px : (part f.type xs0.toArray f.offset).run P w = .ok x w := by simp [part, h6, h2, gx]
        have py : (part f.type ys0.toArray f.offset).run P w = .ok y w := by simp [part, h6, h2, gy]
        have ih := fieldsOk_run w d fs (i + 1) xs ys xs0 ys0 h4 (by rw [← List.drop_drop, hx]; rfl) (by rw [← List.drop_drop, hy]; rfl)
        simp only [Op.eqFields, h1, ne_eq, not_false_eq_true, if_true, Sem.run_bind, px, py, h5, Result.andThen_ok, eqVs]
        cases hv : eqV x y
        · simp
        · simpa using ih

/-- What a struct of plain cells holds. -/
def freeA : TS → Option (List Value)
  | .one (.agg cs) => freeL cs
  | _ => none
theorem freeA_val {a : Act} {w : World} {g : Gh} {x : Operand} {t : TS} {us : List Value} (hR : Rel w0 g0 st a w g) (hx : T.opd 0 st x = some t) (h : freeA t = some us) : a.eval x = .agg us.toArray := by
  have h1 := hR.opd hx
  unfold freeA at h
  split at h
  · generalize a.eval x = v at h1 ⊢
    cases h1 with
    | one _ _ h1 =>
      cases h1 with
      | agg _ vs hs hvv =>
        have h2 := freeL_inv (w := w) (g := g) h
        have := (h2.2 vs.toList (by simpa using hs)).1 fun j c u hj hu => hvv j c u hj (by simpa using hu)
        rw [← this]
  · cases h

section
variable {o : Oper} {x y : Operand} {ty ty' : TypeId} {t1 t2 : TS} {us vs : List Value}
theorem Val.eqlA (ho : o.op = .binOp .eql ty x y ty') (hx : T.opd 0 st x = some t1) (h1 : freeA t1 = some us) (hy : T.opd 0 st y = some t2) (h2 : freeA t2 = some vs)
    (ht : P.underlying ty = some (.struct (P.fieldsOf ty))) (hp : P.stoodInHeld ty = false) (hm : P.eqGuardType P.depth ty = false) (hf : fieldsOk P 0 (P.fieldsOf ty).toList us vs = true) : Val P w0 g0 o st (B (eqVs us vs)) :=
  fun a w g hR => ⟨.bool (eqVs us vs), fun w' _ => by
    have hrun := (run_equalIn_struct (P := P) w' 9999 ty us.toArray vs.toArray ht hp).trans (fieldsOk_run (P := P) w' 9998 _ 0 us vs us vs hf rfl rfl)
    simp [execOp, ho, freeA_val hR hx h1, freeA_val hR hy h2, run_eqGuard_agg, hm, run_eql_struct, hrun], V_mk rfl⟩
theorem Val.neqA (ho : o.op = .binOp .neq ty x y ty') (hx : T.opd 0 st x = some t1) (h1 : freeA t1 = some us) (hy : T.opd 0 st y = some t2) (h2 : freeA t2 = some vs)
    (ht : P.underlying ty = some (.struct (P.fieldsOf ty))) (hp : P.stoodInHeld ty = false) (hm : P.eqGuardType P.depth ty = false) (hf : fieldsOk P 0 (P.fieldsOf ty).toList us vs = true) : Val P w0 g0 o st (B !(eqVs us vs)) :=
  fun a w g hR => ⟨.bool !(eqVs us vs), fun w' _ => by
    have hrun := (run_equalIn_struct (P := P) w' 9999 ty us.toArray vs.toArray ht hp).trans (fieldsOk_run (P := P) w' 9998 _ 0 us vs us vs hf rfl rfl)
    simp [execOp, ho, freeA_val hR hx h1, freeA_val hR hy h2, run_eqGuard_agg, hm, run_neq_struct, hrun], V_mk rfl⟩
end

/- CASES ON WHAT A GUARD HAS -/
theorem TL.split {ops : Array Oper} {l : List Oper} {Q : St → Prop} (b : Bool) (h1 : b = true → TL P w0 g0 ops l st Q) (h2 : b = false → TL P w0 g0 ops l st Q) : TL P w0 g0 ops l st Q := by
  cases b
  · exact h2 rfl
  · exact h1 rfl
theorem TQ.split {ops : Array Oper} {l : List Oper} {Q : St → Prop} (b : Bool) (h1 : b = true → TQ P w0 g0 ops l st Q) (h2 : b = false → TQ P w0 g0 ops l st Q) : TQ P w0 g0 ops l st Q := by
  cases b
  · exact h2 rfl
  · exact h1 rfl
theorem TL.splitG {ops : Array Oper} {l : List Oper} {Q : St → Prop} {b : Bool} (j : Nat) (hb : guardOf ops st j = some (V (.bool b))) (h1 : b = true → TL P w0 g0 ops l st Q) (h2 : b = false → TL P w0 g0 ops l st Q) :
    TL P w0 g0 ops l st Q := TL.split b h1 h2
theorem TQ.splitG {ops : Array Oper} {l : List Oper} {Q : St → Prop} {b : Bool} (j : Nat) (hb : guardOf ops st j = some (V (.bool b))) (h1 : b = true → TQ P w0 g0 ops l st Q) (h2 : b = false → TQ P w0 g0 ops l st Q) :
    TQ P w0 g0 ops l st Q := TQ.split b h1 h2
theorem TQ.guardE {ops : Array Oper} {o : Oper} {rest : List Oper} {st' : St} {Q : St → Prop} {t : TS} {j : Nat} {want b : Bool} (hg : o.guard = some (j, want)) (hb : guardOf ops st j = some (V (.bool b)))
    (he : b = want) (h : Val P w0 g0 o st t) (hp : st.put o.dst t = st') (hq : TQ P w0 g0 ops rest st' Q) : TQ P w0 g0 ops (o :: rest) st Q := TQ.guard_yes hg hb he h (hp ▸ hq)
theorem TQ.guardN {ops : Array Oper} {o : Oper} {rest : List Oper} {st' : St} {Q : St → Prop} {j : Nat} {want b : Bool} (hg : o.guard = some (j, want)) (hb : guardOf ops st j = some (V (.bool b)))
    (he : b = !want) (hp : st.put o.dst (.one .dead) = st') (hq : TQ P w0 g0 ops rest st' Q) : TQ P w0 g0 ops (o :: rest) st Q := TQ.guard_no hg hb he (hp ▸ hq)
theorem Val.pickT {o : Oper} {c x y : Operand} {b : Bool} {t : TS} (ho : o.op = .pick c x y) (hc : T.opd 0 st c = some (V (.bool b))) (hb : b = true) (hx : T.opd 0 st x = some t) : Val P w0 g0 o st t :=
  Val.pick ho hc (by rw [hb]; exact hx)
theorem Val.pickF {o : Oper} {c x y : Operand} {b : Bool} {t : TS} (ho : o.op = .pick c x y) (hc : T.opd 0 st c = some (V (.bool b))) (hb : b = false) (hx : T.opd 0 st y = some t) : Val P w0 g0 o st t :=
  Val.pick ho hc (by rw [hb]; exact hx)

/- CALLS THROUGH A SLOT, AND GUARDED ONES -/
def yes (ops : Array Oper) (st : St) (o : Oper) : Prop := o.guard = none ∨ ∃ j want b, o.guard = some (j, want) ∧ guardOf ops st j = some (V (.bool b)) ∧ b = want
theorem yes_of {ops : Array Oper} {o : Oper} {a : Act} {w : World} {g : Gh} (h : yes ops st o) (hR : Rel w0 g0 st a w g) : Region.wanted o (yielded ops a.tmps) = true := by
  rcases h with h | ⟨j, want, b, h1, h2, h3⟩
  · simp [Region.wanted, h]
  · simp [Region.wanted, h1, yielded_of hR h2, h3]
theorem yes_none {ops : Array Oper} {o : Oper} (h : o.guard = none) : yes ops st o := .inl h
theorem yes_some {ops : Array Oper} {o : Oper} {j : Nat} {want b : Bool} (hg : o.guard = some (j, want)) (hb : guardOf ops st j = some (V (.bool b))) (he : b = want) : yes ops st o := .inr ⟨j, want, b, hg, hb, he⟩

theorem run_enter {a : Act} {w : World} {g : Gh} {o : Oper} {f : FuncId} {cx : Operand} {args : List Operand} {tys : Array TypeId} {fn : Func} (hR : Rel w0 g0 st a w g)
    (ho : o.op = .call { callee := .value cx, args := args.toArray, argTypes := tys }) (hcx : T.opd 0 st cx = some (.fn f [])) (hf : P.funcs[f]? = some fn) (hb : fn.body.isNone = false)
    (hn : (fn.name == "runtime.NumGoroutine") = false) (w' : World) : (execOp a.eval o).run P w' = .ok (.enter f (args.map a.eval).toArray) w' := by
  have he : a.eval cx = .func (.func f) #[] #[] := by
    have h1 := hR.opd hcx
    generalize a.eval cx = v at h1
    cases h1 with
    | fn _ _ us hs h =>
      have : us = #[] := Array.eq_empty_of_size_eq_zero (by simpa using hs)
      rw [this]
  have hn' : ¬ fn.name = "runtime.NumGoroutine" := by simpa using hn
  have hb' : ¬ fn.body = none := fun e => by rw [e] at hb; cases hb
  simp [execOp, ho, resolve, he, Deferred.ofValue, invoke, callFunc, hf, hn', hb']

theorem TL.callF {ops : Array Oper} {o : Oper} {rest : List Oper} {st' : St} {Q : St → Prop} (hg : yes ops st o) {f : FuncId} {cx : Operand} {args : List Operand} {tys : Array TypeId} {fn : Func}
    (ho : o.op = .call { callee := .value cx, args := args.toArray, argTypes := tys }) (hcx : T.opd 0 st cx = some (.fn f [])) (hf : P.funcs[f]? = some fn) (hb : fn.body.isNone = false)
    (hn : (fn.name == "runtime.NumGoroutine") = false) {ts ts' : List TS} (hx : opds st args = some ts) {t : TS} {x : Value} (hc : FunK P w0 g0 f ts' (RP t)) (hs : Snaps st ts ts') (hp : freeS t = some x)
    (hpt : st.put o.dst t = st') (hq : TL P w0 g0 ops rest st' Q) : TL P w0 g0 ops (o :: rest) st Q := fun a w g hR Q' hQ => wpList_step fun K hK => by
  rw [if_pos (yes_of hg hR)]
  have h1 := hR.opds hx
  have h2 := hs.get
  have hcall := hc w hR.ks.kept { g with o := allRo w } (args.map a.eval).toArray 0 rfl (by simp [h1.1, h2.1]) (fun i t' u hi hu => by
    obtain ⟨t, h3, h4⟩ := h2.2 i t' hi
    exact hR.snap h4 (h1.2 i t u h3 (by simpa using hu)) _ rfl)
  unfold Oper.wp
  rw [run_enter hR ho hcx hf hb hn w]
  refine hcall.mono fun e w' ⟨v, r, g', he, hr, hG⟩ => ?_
  subst he
  have h5 := hG.val
  rw [hr] at h5
  have h6 := (freeS_inv hp).1 h5
  subst h6
  have hR' := hR.later (w' := w') ⟨hG.os, hG.tape, hG.output, hG.size, hG.block⟩
  exact hK _ _ (hq _ _ _ (hpt ▸ hR'.put ((freeS_inv hp).2 rfl) o.dst) Q' hQ)

theorem TQ.callF {ops : Array Oper} {o : Oper} {rest : List Oper} {st' : St} {Q : St → Prop} (hg : yes ops st o) {f : FuncId} {cx : Operand} {args : List Operand} {tys : Array TypeId} {fn : Func}
    (ho : o.op = .call { callee := .value cx, args := args.toArray, argTypes := tys }) (hcx : T.opd 0 st cx = some (.fn f [])) (hf : P.funcs[f]? = some fn) (hb : fn.body.isNone = false)
    (hn : (fn.name == "runtime.NumGoroutine") = false) {ts ts' : List TS} (hx : opds st args = some ts) {t : TS} {x : Value} (hc : FunK P w0 g0 f ts' (RP t)) (hs : Snaps st ts ts') (hp : freeS t = some x)
    (hpt : st.put o.dst t = st') (hq : TQ P w0 g0 ops rest st' Q) : TQ P w0 g0 ops (o :: rest) st Q := fun a w g hR Q' hQ => by
  refine wpQuiet_step fun K hK => ?_
  rw [if_pos (yes_of hg hR)]
  refine ⟨x, fun w' hw' => ?_, hK _ (hq _ _ _ (hpt ▸ hR.put ((freeS_inv hp).2 rfl) o.dst) Q' hQ)⟩
  have hR' := hR.later hw'
  have h1 := hR'.opds hx
  have h2 := hs.get
  have hcall := hc w' hR'.ks.kept { g with o := allRo w' } (args.map a.eval).toArray 0 rfl (by simp [h1.1, h2.1]) (fun i t' u hi hu => by
    obtain ⟨t, h3, h4⟩ := h2.2 i t' hi
    exact hR'.snap h4 (h1.2 i t u h3 (by simpa using hu)) _ rfl)
  unfold Oper.quietAt
  rw [run_enter hR ho hcx hf hb hn w']
  refine ⟨rfl, hcall.mono fun e w'' ⟨v, r, g', he, hR1, hG⟩ => ?_⟩
  have h5 := hG.val
  rw [hR1] at h5
  have h6 := (freeS_inv hp).1 h5
  subst h6
  exact ⟨he, hw'.trans ⟨hG.os, hG.tape, hG.output, hG.size, hG.block⟩⟩

/- ARGUMENTS THAT REFER TO WHAT THE CALLER OWNS -/
inductive SnapC (st : St) : C → C → Prop
  | ro (d : D) : SnapC st (.ro d) (.ro d)
  | ref {pl : Pl} {d : D} (h : st.cellAt pl = some (.own d)) (hw : Whole d) : SnapC st (.ref pl) (.ro d)
inductive SnapCs (st : St) : List C → List C → Prop
  | nil : SnapCs st [] []
  | cons {c c' : C} {l l' : List C} (h : SnapC st c c') (hl : SnapCs st l l') : SnapCs st (c :: l) (c' :: l')
theorem SnapCs.get {cs cs' : List C} (h : SnapCs st cs cs') : cs'.length = cs.length ∧ ∀ (j : Nat) c c', cs[j]? = some c → cs'[j]? = some c' → SnapC st c c' := by
  induction h with
  | nil => exact ⟨rfl, fun j c c' h1 => by simp at h1⟩
  | cons h hl ih =>
    refine ⟨by simp [ih.1], fun j c c' h1 h2 => ?_⟩
    cases j with
    | zero =>
      simp only [List.getElem?_cons_zero, Option.some.injEq] at h1 h2
      subst h1; subst h2
      exact h
    | succ j => exact ih.2 j c c' (by simpa using h1) (by simpa using h2)
theorem Snap.aggR {cs cs' : List C} (h : SnapCs st cs cs') : Snap st (.one (.agg cs)) (.one (.agg cs')) :=
  .agg cs cs' h.get.1 fun j c c' h1 h2 => by
    cases h.get.2 j c c' h1 h2 with
    | ro d => exact .inl ⟨d, rfl, rfl⟩
    | ref h hw => exact .inr ⟨_, _, rfl, rfl, h, hw⟩

/- RESULTS OF SEVERAL PARTS: lists that the result owns, plain cells, structs of both -/
inductive RD where
  | c (d : D)
  | a (ds : List D)
def isSl : D → Bool
  | .sl _ _ => true
  | _ => false
def refD (k j : Nat) : D → C
  | .sl _ _ => .ref ⟨k, [], j⟩
  | d => .ro d
def nextD (j : Nat) : D → Nat
  | .sl _ _ => j + 1
  | _ => j
def refsD (k : Nat) : Nat → List D → List C
  | _, [] => []
  | j, d :: l => refD k j d :: refsD k (nextD j d) l
def nextsD : Nat → List D → Nat
  | j, [] => j
  | j, d :: l => nextsD (nextD j d) l
def valsD (k : Nat) : Nat → List RD → List TV
  | _, [] => []
  | j, .c d :: l => .c (refD k j d) :: valsD k (nextD j d) l
  | j, .a ds :: l => .agg (refsD k j ds) :: valsD k (nextsD j ds) l
def cellsD : List RD → List D
  | [] => []
  | .c d :: l => d :: cellsD l
  | .a ds :: l => ds ++ cellsD l
def resG (l : List RD) : Res := ⟨(cellsD l).filter isSl, fun k => resT (valsD k 0 l)⟩
abbrev RG (l : List RD) : Res → Prop := fun r => r = resG l
def okD : D → Bool
  | .v _ => true
  | .sl _ _ => true
  | _ => false

theorem okC_refD {k j n : Nat} {d : D} (h : okD d = true) (hj : nextD j d ≤ n) : okC k n (refD k j d) = true := by
  cases d with
  | v x => rfl
  | sl sz ds =>
    simp only [nextD] at hj
    simp [refD, okC]
    omega
  | _ => cases h
theorem nextD_eq (j : Nat) (d : D) : nextD j d = j + ([d].filter isSl).length := by cases d <;> rfl
theorem nextsD_eq : ∀ (l : List D) (j : Nat), nextsD j l = j + (l.filter isSl).length
  | [], j => rfl
  | d :: l, j => by
    rw [nextsD, nextsD_eq l, nextD_eq, show d :: l = [d] ++ l from rfl, List.filter_append, List.length_append]
    omega
theorem okC_refsD {k n : Nat} : ∀ (l : List D) (j : Nat), l.all okD = true → nextsD j l ≤ n → (refsD k j l).all (okC k n) = true
  | [], j, _, _ => rfl
  | d :: l, j, h, hj => by
    simp only [List.all_cons, Bool.and_eq_true] at h
    have h1 : nextD j d ≤ n := by
      have := nextsD_eq l (nextD j d)
      simp only [nextsD] at hj
      omega
    simp only [refsD, List.all_cons, okC_refD h.1 h1, okC_refsD l _ h.2 hj, Bool.and_self]
theorem okV_valsD {k n : Nat} : ∀ (l : List RD) (j : Nat), (cellsD l).all okD = true → j + ((cellsD l).filter isSl).length ≤ n → (valsD k j l).all (okV k n) = true
  | [], j, _, _ => rfl
  | .c d :: l, j, h, hj => by
    simp only [cellsD, List.all_cons, Bool.and_eq_true] at h
    rw [cellsD, show d :: cellsD l = [d] ++ cellsD l from rfl, List.filter_append, List.length_append] at hj
    have h0 := nextD_eq j d
    have g1 := okC_refD (k := k) h.1 (show nextD j d ≤ n by omega)
    have g2 := okV_valsD (k := k) (n := n) l (nextD j d) h.2 (by omega)
    simp only [valsD, List.all_cons, okV, g1, g2, Bool.and_self]
  | .a ds :: l, j, h, hj => by
    simp only [cellsD, List.all_append, Bool.and_eq_true] at h
    rw [cellsD, List.filter_append, List.length_append] at hj
    have h0 := nextsD_eq ds j
    have g1 := okC_refsD (k := k) (n := n) ds j h.1 (by omega)
    have g2 := okV_valsD (k := k) (n := n) l (nextsD j ds) h.2 (by omega)
    simp only [valsD, List.all_cons, okV, g1, g2, Bool.and_self]
theorem okS_resG {k : Nat} {l : List RD} (h : (cellsD l).all okD = true) : okS k (resG l).row.length ((resG l).val k) = true := by
  have h1 := okV_valsD (k := k) (n := (resG l).row.length) l 0 h (by simp [resG])
  simp only [resG] at h1 ⊢
  unfold resT
  split
  · rename_i heq
    rw [heq] at h1
    simpa [okS] using h1
  · exact h1

/-- A call whose result has several parts. -/
theorem OpT.callG {o : Oper} {Q : St → Prop} {f : FuncId} {args : List Operand} {tys : Array TypeId} {fn : Func} (ho : o.op = .call { callee := .value (.func f), args := args.toArray, argTypes := tys }) (hf : P.funcs[f]? = some fn)
    (hb : fn.body.isNone = false) (hn : (fn.name == "runtime.NumGoroutine") = false) {k : Nat} (hd : o.dst = some k) {ts ts' : List TS} (hx : opds st args = some ts) {l : List RD} (hc : FunK P w0 g0 f ts' (RG l))
    (hs : Snaps st ts ts') (hok : (cellsD l).all okD = true) (hq : Q ((st.fresh k ⟨false, ((cellsD l).filter isSl).map C.own⟩).put (some k) (resT (valsD k 0 l)))) (hkp : k < 1000000 := by decide) : OpT P w0 g0 o st Q :=
  OpT.call ho hf hb hn hd hx hs hc (fun r hr => by subst hr; exact okS_resG hok) (fun r hr => by subst hr; exact hq) hkp

/-- What a list's elements are made of is whole. -/
theorem whole_map {α : Type} {d : α → D} (sz : Nat) (xs : List α) (h : ∀ x, ∀ c ∈ (d x).row, Whole c) : Whole (.sl sz (xs.map d)) := .sl _ _ fun e he c hc => by
  obtain ⟨x, _, rfl⟩ := List.mem_map.1 he
  exact h x c hc
end
end Go.Proofs.YtdlpmcjpbcbbjaaDoor.T
