
import Derived.Test.YtcmoifejjodgcaaT2p
import Derived.ChangeKeysEq
import Derived.Orders
import Derived.Laws.Tables
namespace Go.Proofs.Ytcmoifejjodgcaa.T
open Go
set_option linter.unusedVariables false
set_option linter.unusedSimpArgs false
section
variable {P : Program} {w0 : World} {g0 : Gh} {st : St}
def eqV : Value → Value → Bool
 | .bool a, .bool b => a == b
 | .int _ a, .int _ b => a == b
 | .string a, .string b => a.toList == b.toList
 | _, _ => false
def eqVs : List Value → List Value → Bool
 | [], [] => true
 | x :: xs, y :: ys => eqV x y && eqVs xs ys
 | _, _ => false
def kindOk (P : Program) (t : TypeId) : Value → Value → Bool
 | .bool _, .bool _ => match P.underlying t with | some .bool => true | _ => false
 | .int k _, .int k' _ => match P.underlying t with | some (.int _) => decide (k = k') | _ => false
 | .string _, .string _ => match P.underlying t with | some .string => true | _ => false
 | _, _ => false
def fieldsOk (P : Program) : Nat → List Field → List Value → List Value → Bool
 | _, [], [], [] => true
 | i, f :: fs, x :: xs, y :: ys => f.name != "_" && f.offset == i && kindOk P f.type x y && fieldsOk P (i + 1) fs xs ys
 | _, _, _, _ => false
theorem kindOk_run {t : TypeId} {x y : Value} (h : kindOk P t x y = true) (d : Nat) (w : World) : (Op.equalIn (d + 1) t x y).run P w = .ok (eqV x y) w ∧ (isAgg t).run P w = .ok false w := by
 unfold kindOk at h
 split at h
 ·split at h
  ·rename_i hu
   exact ⟨run_equalIn_bool' w d t _ _ hu, run_isAgg' (by simp [aggT, hu]) w⟩
  ·cases h
 ·split at h
  ·rename_i hu
   have := of_decide_eq_true h
   subst this
   exact ⟨run_equalIn_int w d t _ _ _ _ hu, run_isAgg' (by simp [aggT, hu]) w⟩
  ·cases h
 ·split at h
  ·rename_i hu
   exact ⟨run_equalIn_string w d t _ _ hu, run_isAgg' (by simp [aggT, hu]) w⟩
  ·cases h
 ·cases h
theorem fieldsOk_run (w : World) (d : Nat) : ∀ (fs : List Field) (i : Nat) (xs ys xs0 ys0 : List Value), fieldsOk P i fs xs ys = true → xs0.drop i = xs → ys0.drop i = ys →
  (Op.eqFields (d + 1) xs0.toArray ys0.toArray fs).run P w = .ok (eqVs xs ys) w
 | [], i, xs, ys, xs0, ys0, h, hx, hy => by
  cases xs with
  | nil =>
   cases ys with
   | nil => simp [Op.eqFields, eqVs]
   | cons y ys => cases h
  | cons x xs => cases h
 | f :: fs, i, xs, ys, xs0, ys0, h, hx, hy => by
  cases xs with
  | nil => cases h
  | cons x xs =>
   cases ys with
   | nil => cases h
   | cons y ys =>
    simp only [fieldsOk, Bool.and_eq_true, bne_iff_ne, ne_eq, beq_iff_eq] at h
    obtain ⟨⟨⟨h1, h2⟩, h3⟩, h4⟩ := h
    obtain ⟨h5, h6⟩ := kindOk_run (P := P) h3 d w
    have gx : xs0[i]? = some x := by
     have := congrArg (·[0]?) hx
     simpa using this
    have gy : ys0[i]? = some y := by
     have := congrArg (·[0]?) hy
     simpa using this
    have px : (part f.type xs0.toArray f.offset).run P w = .ok x w := by simp [part, h6, h2, gx]
    have py : (part f.type ys0.toArray f.offset).run P w = .ok y w := by simp [part, h6, h2, gy]
    have ih := fieldsOk_run w d fs (i + 1) xs ys xs0 ys0 h4 (by rw [← List.drop_drop, hx]; rfl) (by rw [← List.drop_drop, hy]; rfl)
    simp only [Op.eqFields, h1, ne_eq, not_false_eq_true, if_true, Sem.run_bind, px, py, h5, Result.andThen_ok, eqVs]
    cases hv : eqV x y
    ·simp
    ·simpa using ih
def freeA : TS → Option (List Value)
 | .one (.agg cs) => freeL cs
 | _ => none
theorem freeA_val {a : Act} {w : World} {g : Gh} {x : Operand} {t : TS} {us : List Value} (hR : Rel w0 g0 st a w g) (hx : T.opd 0 st x = some t) (h : freeA t = some us) : a.eval x = .agg us.toArray := by
 have h1 := hR.opd hx
 unfold freeA at h
 split at h
 ·generalize a.eval x = v at h1 ⊢
  cases h1 with
  | one _ _ h1 =>
   cases h1 with
   | agg _ vs hs hvv =>
    have h2 := freeL_inv (w := w) (g := g) h
    have := (h2.2 vs.toList (by simpa using hs)).1 fun j c u hj hu => hvv j c u hj (by simpa using hu)
    rw [← this]
 ·cases h
section
variable {o : Oper} {x y : Operand} {ty ty' : TypeId} {t1 t2 : TS} {us vs : List Value}
theorem Val.eqlA (ho : o.op = .binOp .eql ty x y ty') (hx : T.opd 0 st x = some t1) (h1 : freeA t1 = some us) (hy : T.opd 0 st y = some t2) (h2 : freeA t2 = some vs)
  (ht : P.underlying ty = some (.struct (P.fieldsOf ty))) (hp : P.stoodInHeld ty = false) (hm : P.eqGuardType P.depth ty = false) (hf : fieldsOk P 0 (P.fieldsOf ty).toList us vs = true) : Val P w0 g0 o st (B (eqVs us vs)) :=
 fun a w g hR => ⟨.bool (eqVs us vs), fun w' _ => by
  have hrun := (run_equalIn_struct (P := P) w' 9999 ty us.toArray vs.toArray ht hp).trans (fieldsOk_run (P := P) w' 9998 _ 0 us vs us vs hf rfl rfl)
  simp [execOp, ho, freeA_val hR hx h1, freeA_val hR hy h2, run_eqGuard_agg, hm, run_eql_struct, hrun], V_mk rfl⟩
theorem Val.neqA (ho : o.op = .binOp .neq ty x y ty') (hx : T.opd 0 st x = some t1) (h1 : freeA t1 = some us) (hy : T.opd 0 st y = some t2) (h2 : freeA t2 = some vs)
  (ht : P.underlying ty = some (.struct (P.fieldsOf ty))) (hp : P.stoodInHeld ty = false) (hm : P.eqGuardType P.depth ty = false) (hf : fieldsOk P 0 (P.fieldsOf ty).toList us vs = true) : Val P w0 g0 o st (B !(eqVs us vs)) :=
 fun a w g hR => ⟨.bool !(eqVs us vs), fun w' _ => by
  have hrun := (run_equalIn_struct (P := P) w' 9999 ty us.toArray vs.toArray ht hp).trans (fieldsOk_run (P := P) w' 9998 _ 0 us vs us vs hf rfl rfl)
  simp [execOp, ho, freeA_val hR hx h1, freeA_val hR hy h2, run_eqGuard_agg, hm, run_neq_struct, hrun], V_mk rfl⟩
end
theorem TL.split {ops : Array Oper} {l : List Oper} {Q : St → Prop} (b : Bool) (h1 : b = true → TL P w0 g0 ops l st Q) (h2 : b = false → TL P w0 g0 ops l st Q) : TL P w0 g0 ops l st Q := by
 cases b
 ·exact h2 rfl
 ·exact h1 rfl
theorem TQ.split {ops : Array Oper} {l : List Oper} {Q : St → Prop} (b : Bool) (h1 : b = true → TQ P w0 g0 ops l st Q) (h2 : b = false → TQ P w0 g0 ops l st Q) : TQ P w0 g0 ops l st Q := by
 cases b
 ·exact h2 rfl
 ·exact h1 rfl
theorem TQ.guardE {ops : Array Oper} {o : Oper} {rest : List Oper} {st' : St} {Q : St → Prop} {t : TS} {j : Nat} {want b : Bool} (hg : o.guard = some (j, want)) (hb : guardOf ops st j = some (V (.bool b)))
  (he : b = want) (h : Val P w0 g0 o st t) (hp : st.put o.dst t = st') (hq : TQ P w0 g0 ops rest st' Q) : TQ P w0 g0 ops (o :: rest) st Q := TQ.guard_yes hg hb he h (hp ▸ hq)
def yes (ops : Array Oper) (st : St) (o : Oper) : Prop := o.guard = none ∨ ∃ j want b, o.guard = some (j, want) ∧ guardOf ops st j = some (V (.bool b)) ∧ b = want
theorem yes_of {ops : Array Oper} {o : Oper} {a : Act} {w : World} {g : Gh} (h : yes ops st o) (hR : Rel w0 g0 st a w g) : Region.wanted o (yielded ops a.tmps) = true := by
 rcases h with h | ⟨j, want, b, h1, h2, h3⟩
 ·simp [Region.wanted, h]
 ·simp [Region.wanted, h1, yielded_of hR h2, h3]
theorem yes_none {ops : Array Oper} {o : Oper} (h : o.guard = none) : yes ops st o := .inl h
theorem yes_some {ops : Array Oper} {o : Oper} {j : Nat} {want b : Bool} (hg : o.guard = some (j, want)) (hb : guardOf ops st j = some (V (.bool b))) (he : b = want) : yes ops st o := .inr ⟨j, want, b, hg, hb, he⟩
theorem run_enter {a : Act} {w : World} {g : Gh} {o : Oper} {f : FuncId} {cx : Operand} {args : List Operand} {tys : Array TypeId} {fn : Func} (hR : Rel w0 g0 st a w g)
  (ho : o.op = .call { callee := .value cx, args := args.toArray, argTypes := tys }) (hcx : T.opd 0 st cx = some (.fn f [])) (hf : P.funcs[f]? = some fn) (hb : fn.body.isNone = false)
  (hn : (fn.name == "runtime.NumGoroutine") = false) (w' : World) : (execOp a.eval o).run P w' = .ok (.enter f (args.map a.eval).toArray) w' := by
 have he : a.eval cx = .func (.func f) #[] #[] := by
  have h1 := hR.opd hcx
  generalize a.eval cx = v at h1
  cases h1 with
  | fn _ _ us hs h =>
   have : us = #[] := Array.eq_empty_of_size_eq_zero (by simpa using hs)
   rw [this]
 have hn' : ¬ fn.name = "runtime.NumGoroutine" := by simpa using hn
 have hb' : ¬ fn.body = none := fun e => by rw [e] at hb; cases hb
 simp [execOp, ho, resolve, he, Deferred.ofValue, invoke, callFunc, hf, hn', hb']
theorem TL.callF {ops : Array Oper} {o : Oper} {rest : List Oper} {st' : St} {Q : St → Prop} (hg : yes ops st o) {f : FuncId} {cx : Operand} {args : List Operand} {tys : Array TypeId} {fn : Func}
  (ho : o.op = .call { callee := .value cx, args := args.toArray, argTypes := tys }) (hcx : T.opd 0 st cx = some (.fn f [])) (hf : P.funcs[f]? = some fn) (hb : fn.body.isNone = false)
  (hn : (fn.name == "runtime.NumGoroutine") = false) {ts ts' : List TS} (hx : opds st args = some ts) {t : TS} {x : Value} (hc : FunK P w0 g0 f ts' (RP t)) (hs : Snaps st ts ts') (hp : freeS t = some x)
  (hpt : st.put o.dst t = st') (hq : TL P w0 g0 ops rest st' Q) : TL P w0 g0 ops (o :: rest) st Q := fun a w g hR Q' hQ => wpList_step fun K hK => by
 rw [if_pos (yes_of hg hR)]
 have h1 := hR.opds hx
 have h2 := hs.get
 have hcall := hc w hR.ks.kept { g with o := allRo w } (args.map a.eval).toArray 0 rfl (by simp [h1.1, h2.1]) (fun i t' u hi hu => by
  obtain ⟨t, h3, h4⟩ := h2.2 i t' hi
  exact hR.snap h4 (h1.2 i t u h3 (by simpa using hu)) _ rfl)
 unfold Oper.wp
 rw [run_enter hR ho hcx hf hb hn w]
 refine hcall.mono fun e w' ⟨v, r, g', he, hr, hG⟩ => ?_
 subst he
 have h5 := hG.val
 rw [hr] at h5
 have h6 := (freeS_inv hp).1 h5
 subst h6
 have hR' := hR.later (w' := w') ⟨hG.os, hG.tape, hG.output, hG.size, hG.block⟩
 exact hK _ _ (hq _ _ _ (hpt ▸ hR'.put ((freeS_inv hp).2 rfl) o.dst) Q' hQ)
theorem TQ.callF {ops : Array Oper} {o : Oper} {rest : List Oper} {st' : St} {Q : St → Prop} (hg : yes ops st o) {f : FuncId} {cx : Operand} {args : List Operand} {tys : Array TypeId} {fn : Func}
  (ho : o.op = .call { callee := .value cx, args := args.toArray, argTypes := tys }) (hcx : T.opd 0 st cx = some (.fn f [])) (hf : P.funcs[f]? = some fn) (hb : fn.body.isNone = false)
  (hn : (fn.name == "runtime.NumGoroutine") = false) {ts ts' : List TS} (hx : opds st args = some ts) {t : TS} {x : Value} (hc : FunK P w0 g0 f ts' (RP t)) (hs : Snaps st ts ts') (hp : freeS t = some x)
  (hpt : st.put o.dst t = st') (hq : TQ P w0 g0 ops rest st' Q) : TQ P w0 g0 ops (o :: rest) st Q := fun a w g hR Q' hQ => by
 refine wpQuiet_step fun K hK => ?_
 rw [if_pos (yes_of hg hR)]
 refine ⟨x, fun w' hw' => ?_, hK _ (hq _ _ _ (hpt ▸ hR.put ((freeS_inv hp).2 rfl) o.dst) Q' hQ)⟩
 have hR' := hR.later hw'
 have h1 := hR'.opds hx
 have h2 := hs.get
 have hcall := hc w' hR'.ks.kept { g with o := allRo w' } (args.map a.eval).toArray 0 rfl (by simp [h1.1, h2.1]) (fun i t' u hi hu => by
  obtain ⟨t, h3, h4⟩ := h2.2 i t' hi
  exact hR'.snap h4 (h1.2 i t u h3 (by simpa using hu)) _ rfl)
 unfold Oper.quietAt
 rw [run_enter hR ho hcx hf hb hn w']
 refine ⟨rfl, hcall.mono fun e w'' ⟨v, r, g', he, hR1, hG⟩ => ?_⟩
 have h5 := hG.val
 rw [hR1] at h5
 have h6 := (freeS_inv hp).1 h5
 subst h6
 exact ⟨he, hw'.trans ⟨hG.os, hG.tape, hG.output, hG.size, hG.block⟩⟩
inductive SnapC (st : St) : C → C → Prop
 | ro (d : D) : SnapC st (.ro d) (.ro d)
 | ref {pl : Pl} {d : D} (h : st.cellAt pl = some (.own d)) (hw : Whole d) : SnapC st (.ref pl) (.ro d)
inductive SnapCs (st : St) : List C → List C → Prop
 | nil : SnapCs st [] []
 | cons {c c' : C} {l l' : List C} (h : SnapC st c c') (hl : SnapCs st l l') : SnapCs st (c :: l) (c' :: l')
theorem SnapCs.get {cs cs' : List C} (h : SnapCs st cs cs') : cs'.length = cs.length ∧ ∀ (j : Nat) c c', cs[j]? = some c → cs'[j]? = some c' → SnapC st c c' := by
 induction h with
 | nil => exact ⟨rfl, fun j c c' h1 => by simp at h1⟩
 | cons h hl ih =>
  refine ⟨by simp [ih.1], fun j c c' h1 h2 => ?_⟩
  cases j with
  | zero =>
   simp only [List.getElem?_cons_zero, Option.some.injEq] at h1 h2
   subst h1; subst h2
   exact h
  | succ j => exact ih.2 j c c' (by simpa using h1) (by simpa using h2)
theorem Snap.aggR {cs cs' : List C} (h : SnapCs st cs cs') : Snap st (.one (.agg cs)) (.one (.agg cs')) :=
 .agg cs cs' h.get.1 fun j c c' h1 h2 => by
  cases h.get.2 j c c' h1 h2 with
  | ro d => exact .inl ⟨d, rfl, rfl⟩
  | ref h hw => exact .inr ⟨_, _, rfl, rfl, h, hw⟩
inductive RD where
 | c (d : D)
 | a (ds : List D)
def isSl : D → Bool
 | .sl _ _ => true
 | _ => false
def refD (k j : Nat) : D → C
 | .sl _ _ => .ref ⟨k, [], j⟩
 | d => .ro d
def nextD (j : Nat) : D → Nat
 | .sl _ _ => j + 1
 | _ => j
def refsD (k : Nat) : Nat → List D → List C
 | _, [] => []
 | j, d :: l => refD k j d :: refsD k (nextD j d) l
def nextsD : Nat → List D → Nat
 | j, [] => j
 | j, d :: l => nextsD (nextD j d) l
def valsD (k : Nat) : Nat → List RD → List TV
 | _, [] => []
 | j, .c d :: l => .c (refD k j d) :: valsD k (nextD j d) l
 | j, .a ds :: l => .agg (refsD k j ds) :: valsD k (nextsD j ds) l
def cellsD : List RD → List D
 | [] => []
 | .c d :: l => d :: cellsD l
 | .a ds :: l => ds ++ cellsD l
def resG (l : List RD) : Res := ⟨(cellsD l).filter isSl, fun k => resT (valsD k 0 l)⟩
abbrev RG (l : List RD) : Res → Prop := fun r => r = resG l
def okD : D → Bool
 | .v _ => true
 | .sl _ _ => true
 | _ => false
theorem okC_refD {k j n : Nat} {d : D} (h : okD d = true) (hj : nextD j d ≤ n) : okC k n (refD k j d) = true := by
 cases d with
 | v x => rfl
 | sl sz ds =>
  simp only [nextD] at hj
  simp [refD, okC]
  omega
 | _ => cases h
theorem nextD_eq (j : Nat) (d : D) : nextD j d = j + ([d].filter isSl).length := by cases d <;> rfl
theorem nextsD_eq : ∀ (l : List D) (j : Nat), nextsD j l = j + (l.filter isSl).length
 | [], j => rfl
 | d :: l, j => by
  rw [nextsD, nextsD_eq l, nextD_eq, show d :: l = [d] ++ l from rfl, List.filter_append, List.length_append]
  omega
theorem okC_refsD {k n : Nat} : ∀ (l : List D) (j : Nat), l.all okD = true → nextsD j l ≤ n → (refsD k j l).all (okC k n) = true
 | [], j, _, _ => rfl
 | d :: l, j, h, hj => by
  simp only [List.all_cons, Bool.and_eq_true] at h
  have h1 : nextD j d ≤ n := by
   have := nextsD_eq l (nextD j d)
   simp only [nextsD] at hj
   omega
  simp only [refsD, List.all_cons, okC_refD h.1 h1, okC_refsD l _ h.2 hj, Bool.and_self]
theorem okV_valsD {k n : Nat} : ∀ (l : List RD) (j : Nat), (cellsD l).all okD = true → j + ((cellsD l).filter isSl).length ≤ n → (valsD k j l).all (okV k n) = true
 | [], j, _, _ => rfl
 | .c d :: l, j, h, hj => by
  simp only [cellsD, List.all_cons, Bool.and_eq_true] at h
  rw [cellsD, show d :: cellsD l = [d] ++ cellsD l from rfl, List.filter_append, List.length_append] at hj
  have h0 := nextD_eq j d
  have g1 := okC_refD (k := k) h.1 (show nextD j d ≤ n by omega)
  have g2 := okV_valsD (k := k) (n := n) l (nextD j d) h.2 (by omega)
  simp only [valsD, List.all_cons, okV, g1, g2, Bool.and_self]
 | .a ds :: l, j, h, hj => by
  simp only [cellsD, List.all_append, Bool.and_eq_true] at h
  rw [cellsD, List.filter_append, List.length_append] at hj
  have h0 := nextsD_eq ds j
  have g1 := okC_refsD (k := k) (n := n) ds j h.1 (by omega)
  have g2 := okV_valsD (k := k) (n := n) l (nextsD j ds) h.2 (by omega)
  simp only [valsD, List.all_cons, okV, g1, g2, Bool.and_self]
theorem okS_resG {k : Nat} {l : List RD} (h : (cellsD l).all okD = true) : okS k (resG l).row.length ((resG l).val k) = true := by
 have h1 := okV_valsD (k := k) (n := (resG l).row.length) l 0 h (by simp [resG])
 simp only [resG] at h1 ⊢
 unfold resT
 split
 ·rename_i heq
  rw [heq] at h1
  simpa [okS] using h1
 ·exact h1
theorem OpT.callG {o : Oper} {Q : St → Prop} {f : FuncId} {args : List Operand} {tys : Array TypeId} {fn : Func} (ho : o.op = .call { callee := .value (.func f), args := args.toArray, argTypes := tys }) (hf : P.funcs[f]? = some fn)
  (hb : fn.body.isNone = false) (hn : (fn.name == "runtime.NumGoroutine") = false) {k : Nat} (hd : o.dst = some k) {ts ts' : List TS} (hx : opds st args = some ts) {l : List RD} (hc : FunK P w0 g0 f ts' (RG l))
  (hs : Snaps st ts ts') (hok : (cellsD l).all okD = true) (hq : Q ((st.fresh k ⟨false, ((cellsD l).filter isSl).map C.own⟩).put (some k) (resT (valsD k 0 l)))) (hkp : k < 1000000 := by decide) : OpT P w0 g0 o st Q :=
 OpT.call ho hf hb hn hd hx hs hc (fun r hr => by subst hr; exact okS_resG hok) (fun r hr => by subst hr; exact hq) hkp
end
end Go.Proofs.Ytcmoifejjodgcaa.T
namespace Go.Proofs.Ytcmoifejjodgcaa.T
open Go
set_option linter.unusedVariables false
set_option linter.unusedSimpArgs false
theorem Later.refl (w : World) : Later w w := ⟨rfl, rfl, rfl, Nat.le_refl _, fun _ _ => rfl⟩
def mUpon (P : Program) (o : Oper) (a : Act) (w : World) (next : Act → World → Prop) : Result Next → Prop
 | .ok (.value v) w' => Later w w' ∧ next (a.put o.dst v) w'
 | .ok .skip w' => Later w w' ∧ next (a.put o.dst undef) w'
 | .ok (.enter f args) w' => Later w w' ∧ Calls P f args w' fun e w'' => ∃ v, e = .returned v ∧ Later w w'' ∧ next (a.put o.dst v) w''
 | _ => False
def mOp (P : Program) (ops : Array Oper) (i : Nat) (K : Act → World → Prop) (a : Act) (w : World) : Prop :=
 match ops[i]? with
 | none => K a w
 | some o => if Region.wanted o (yielded ops a.tmps) then mUpon P o a w K ((execOp a.eval o).run P w) else K (a.put o.dst undef) w
def wpAnyM (P : Program) (md : Region.Mode) (ops : Array Oper) (Q : Exit → Act → World → Prop) : Nat → Array Bool → Act → World → Prop
 | 0, listed, a, w => Region.ready md ops listed = [] ∧ Q .normal a w
 | fuel + 1, listed, a, w => (Region.ready md ops listed = [] → Q .normal a w) ∧ ∀ i ∈ Region.ready md ops listed, mOp P ops i (wpAnyM P md ops Q fuel (listed.setIfInBounds i true)) a w
section
variable {P : Program} {ops : Array Oper} {md : Region.Mode} {Q : Exit → Act → World → Prop}
theorem mUpon_mono {o : Oper} {a : Act} {w : World} {K K' : Act → World → Prop} (h : ∀ a w, K a w → K' a w) : ∀ {r : Result Next}, mUpon P o a w K r → mUpon P o a w K' r
 | .ok (.value v) w', hh => ⟨hh.1, h _ _ hh.2⟩
 | .ok .skip w', hh => ⟨hh.1, h _ _ hh.2⟩
 | .ok (.enter f args) w', hh => ⟨hh.1, hh.2.mono fun e w'' ⟨v, h1, h2, h3⟩ => ⟨v, h1, h2, h _ _ h3⟩⟩
 | .ok (.defer d) w', hh => hh.elim
 | .ok (.row r args) w', hh => hh.elim
 | .halt x w', hh => hh.elim
theorem mOp_wp {i : Nat} {a : Act} {w : World} {K K' : Act → World → Prop} (h : ∀ a w, K a w → K' a w) (hh : mOp P ops i K a w) : wpOp P ops Q i K' a w := by
 unfold mOp at hh
 unfold wpOp
 split
 ·rename_i ho; simp only [ho] at hh; exact h _ _ hh
 ·rename_i o ho
  simp only [ho] at hh
  split
  ·rename_i hw
   simp only [hw, if_true] at hh
   refine .inl ?_
   unfold Oper.wp
   generalize (execOp a.eval o).run P w = r at *
   cases r with
   | ok n w' =>
    cases n <;> simp only [mUpon] at hh <;> simp only [Oper.upon]
    case value v => exact h _ _ hh.2
    case skip => exact h _ _ hh.2
    case enter f args =>
     exact hh.2.mono fun e w'' ⟨v, h1, h2, h3⟩ => by subst h1; exact h _ _ h3
   | halt x w' => exact hh.elim
  ·rename_i hw; simp only [hw] at hh; exact h _ _ hh
def YV (P : Program) (ops : Array Oper) (o : Oper) (v : Value) (a : Act) (w : World) : Prop :=
 (Region.wanted o (yielded ops a.tmps) = true ∧ ∀ w', Later w w' → (execOp a.eval o).run P w' = .ok (.value v) w') ∨ (Region.wanted o (yielded ops a.tmps) = false ∧ v = undef)
theorem YV.later {o : Oper} {v : Value} {a : Act} {w w' : World} (h : YV P ops o v a w) (hw : Later w w') : YV P ops o v a w' := by
 rcases h with ⟨h1, h2⟩ | h
 ·exact .inl ⟨h1, fun w'' h3 => h2 w'' (hw.trans h3)⟩
 ·exact .inr h
theorem YV.mOp {i : Nat} {o : Oper} {v : Value} {a : Act} {w : World} (hi : ops[i]? = some o) (hy : YV P ops o v a w) {K : Act → World → Prop} (h : K (a.put o.dst v) w) : mOp P ops i K a w := by
 unfold T.mOp
 simp only [hi]
 rcases hy with ⟨hw, hv⟩ | ⟨hw, rfl⟩
 ·simp only [hw, if_true, hv w (Later.refl w)]
  exact ⟨Later.refl w, h⟩
 ·simp only [hw, Bool.false_eq_true, if_false]; exact h
theorem mOp_put {j : Nat} {oi oj : Oper} {v : Value} (hj : ops[j]? = some oj) (hap : oi.apart ops oj = true) (hsi : ∀ cs b, oi.op ≠ .select cs b) (hsj : ∀ cs b, oj.op ≠ .select cs b)
  {K : Act → World → Prop} {a : Act} {w : World} (hy : YV P ops oi v a w) (h : mOp P ops j K (a.put oi.dst v) w) : mOp P ops j (fun a' w' => YV P ops oi v a' w' ∧ K (a'.put oi.dst v) w') a w := by
 obtain ⟨h1, h2, h3⟩ := Oper.apart_spec hap
 have keep : ∀ u w', Later w w' → YV P ops oi v (a.put oj.dst u) w' := fun u w' hw' => by
  have := hy.later hw'
  unfold YV at *
  rw [execOp_put oi hsi a oj.dst u h3, wanted_put oi a oj.dst u h3]
  exact this
 unfold mOp at *
 simp only [hj] at *
 rw [wanted_put oj a oi.dst v h1] at h
 split
 ·rename_i hw
  simp only [hw, if_true] at h
  rw [execOp_put oj hsj a oi.dst v h1] at h
  generalize (execOp a.eval oj).run P w = r at *
  cases r with
  | ok n w' =>
   cases n <;> simp only [mUpon] at h ⊢
   case value u => exact ⟨h.1, keep u _ h.1, by rw [← Act.put_comm a v u h2]; exact h.2⟩
   case skip => exact ⟨h.1, keep _ _ h.1, by rw [← Act.put_comm a v undef h2]; exact h.2⟩
   case enter f args => exact ⟨h.1, h.2.mono fun e w'' ⟨u, e1, e2, e3⟩ => ⟨u, e1, e2, keep u _ e2, by rw [← Act.put_comm a v u h2]; exact e3⟩⟩
  | halt x w' => exact h.elim
 ·rename_i hw
  simp only [hw] at h
  exact ⟨keep _ _ (Later.refl w), by rw [← Act.put_comm a v undef h2]; exact h⟩
theorem mOp_mono {i : Nat} {a : Act} {w : World} {K K' : Act → World → Prop} (h : ∀ a w, K a w → K' a w) (hh : mOp P ops i K a w) : mOp P ops i K' a w := by
 unfold mOp at *
 split
 ·exact h _ _ (by simpa [*] using hh)
 ·rename_i o ho
  simp only [ho] at hh
  split
  ·rename_i hw; simp only [hw, if_true] at hh; exact mUpon_mono h hh
  ·rename_i hw; simp only [hw] at hh; exact h _ _ hh
theorem wpAnyM_first {i : Nat} {oi : Oper} {v : Value} (hi : ops[i]? = some oi) (hsel : ∀ (j : Nat) (o : Oper) cs b, ops[j]? = some o → o.op ≠ .select cs b) :
  ∀ (fuel : Nat) (listed : Array Bool) (a : Act) (w : World),
   (∀ j oj, ops[j]? = some oj → j ≠ i → listed.getD j true = false → (∀ e ∈ oj.after, Region.binds md e = true → e.on ≠ i) → oi.apart ops oj = true) →
   i ∈ Region.ready md ops listed → YV P ops oi v a w →
   wpAnyM P md ops Q fuel (listed.setIfInBounds i true) (a.put oi.dst v) w → wpAnyM P md ops Q (fuel + 1) listed a w := by
 intro fuel
 induction fuel with
 | zero =>
  intro listed a w _ hr hy H
  refine ⟨fun h => (by rw [h] at hr; cases hr), fun j hj => ?_⟩
  by_cases hji : j = i
  ·subst hji; exact hy.mOp hi H
  ·have := ready_mono hj hji
   rw [H.1] at this
   cases this
 | succ fuel ih =>
  intro listed a w hfree hr hy H
  refine ⟨fun h => (by rw [h] at hr; cases hr), fun j hj => ?_⟩
  by_cases hji : j = i
  ·subst hji; exact hy.mOp hi H
  ·have h1 := H.2 j (ready_mono hj hji)
   obtain ⟨hjun, oj, hoj, hall⟩ := mem_ready.1 hj
   have hnot : ∀ e ∈ oj.after, Region.binds md e = true → e.on ≠ i := fun e he hb heq => by
    have h1 := hall e he hb
    have h0 := (mem_ready.1 hr).1
    rw [heq] at h1
    rcases Nat.lt_or_ge i listed.size with h' | h'
    ·simp [h'] at h0 h1; rw [h0] at h1; cases h1
    ·simp [Array.getElem?_eq_none h'] at h1
   have h2 := mOp_put hoj (hfree j oj hoj hji hjun hnot) (fun cs b => hsel i oi cs b hi) (fun cs b => hsel j oj cs b hoj) hy h1
   have hfree' : ∀ k ok, ops[k]? = some ok → k ≠ i → (listed.setIfInBounds j true).getD k true = false →
     (∀ e ∈ ok.after, Region.binds md e = true → e.on ≠ i) → oi.apart ops ok = true := fun k ok hk hki hun hno => by
    refine hfree k ok hk hki ?_ hno
    by_cases hjk : j = k
    ·subst hjk; exact hjun
    ·rw [getD_set_ne true hjk] at hun; exact hun
   refine mOp_mono (fun a' w' h3 => ih (listed.setIfInBounds j true) a' w' hfree' (ready_mono hr (Ne.symm hji)) h3.1 ?_) h2
   rw [Array.setIfInBounds_comm _ _ hji]
   exact h3.2
theorem wpAnyM_only {i fuel : Nat} {listed : Array Bool} {a : Act} {w : World} (hr : Region.ready md ops listed = [i]) (h : mOp P ops i (wpAnyM P md ops Q fuel (listed.setIfInBounds i true)) a w) :
  wpAnyM P md ops Q (fuel + 1) listed a w :=
 ⟨fun h0 => (by rw [hr] at h0; cases h0), fun j hj => by rw [hr] at hj; rw [List.mem_singleton.1 hj]; exact h⟩
end
def eager (ops : Array Oper) : List (Nat × Bool) → Array Bool → Bool
 | [], listed => (Region.ready .any ops listed).isEmpty
 | (i, b) :: l, listed => (if b then Region.ready .any ops listed == [i] else (Region.ready .any ops listed).contains i && Region.free .any ops listed i) && eager ops l (listed.setIfInBounds i true)
section
variable {P : Program} {w0 : World} {g0 : Gh} {st : St}
def TX (P : Program) (w0 : World) (g0 : Gh) (ops : Array Oper) (l : List (Nat × Bool)) (st : St) (Q : St → Prop) : Prop :=
 ∀ listed, Region.noSelect ops = true → eager ops l listed = true → ∀ a w g, Rel w0 g0 st a w g → ∀ (Q' : Exit → Act → World → Prop), (∀ st' a' w' g', Q st' → Rel w0 g0 st' a' w' g' → Q' .normal a' w') →
  wpAnyM P .any ops Q' l.length listed a w
theorem TX.nil {ops : Array Oper} {Q : St → Prop} (h : Q st) : TX P w0 g0 ops [] st Q := fun listed hs he a w g hR Q' hQ =>
 ⟨by simpa [eager, List.isEmpty_iff] using he, hQ st a w g h hR⟩
theorem at_drop {ops : Array Oper} {i : Nat} {o : Oper} {tl : List Oper} (h : ops.toList.drop i = o :: tl) : ops[i]? = some o := by
 have := congrArg (·[0]?) h
 simpa using this
theorem TX.quiet {ops : Array Oper} {i : Nat} {b : Bool} {l : List (Nat × Bool)} {st' : St} {Q : St → Prop} {o : Oper} {tl : List Oper} (hd0 : ops.toList.drop i = o :: tl)
  (h : ∀ a w g, Rel w0 g0 st a w g → ∃ v, YV P ops o v a w ∧ Rel w0 g0 st' (a.put o.dst v) w g) (hq : TX P w0 g0 ops l st' Q) : TX P w0 g0 ops ((i, b) :: l) st Q := fun listed hs he a w g hR Q' hQ => by
 have hi := at_drop hd0
 simp only [eager, Bool.and_eq_true] at he
 obtain ⟨h1, h2⟩ := he
 obtain ⟨v, hy, hR'⟩ := h a w g hR
 have hnext := hq (listed.setIfInBounds i true) hs h2 _ w g hR' Q' hQ
 cases b
 ·simp only [Bool.false_eq_true, if_false, Bool.and_eq_true] at h1
  exact wpAnyM_first hi (Region.noSelect_spec hs) _ listed a w (Region.free_spec hi h1.2) (by simpa using h1.1) hy hnext
 ·simp only [if_true, beq_iff_eq] at h1
  exact wpAnyM_only h1 (hy.mOp hi hnext)
theorem TX.valE {ops : Array Oper} {i : Nat} {b : Bool} {l : List (Nat × Bool)} {st' : St} {Q : St → Prop} {o : Oper} {t : TS} {tl : List Oper} (hd0 : ops.toList.drop i = o :: tl) (hg : yes ops st o) (h : Val P w0 g0 o st t) (hp : st.put o.dst t = st')
  (hq : TX P w0 g0 ops l st' Q) : TX P w0 g0 ops ((i, b) :: l) st Q := TX.quiet hd0 (fun a w g hR => by
 obtain ⟨v, hr, hv⟩ := h a w g hR
 exact ⟨v, .inl ⟨yes_of hg hR, fun w' hw' => hr w' hw'.2.2.2.2⟩, hp ▸ hR.put hv o.dst⟩) hq
def OpM (P : Program) (w0 : World) (g0 : Gh) (o : Oper) (st : St) (Q : St → Prop) : Prop :=
 ∀ a w g, Rel w0 g0 st a w g → ∀ K : Act → World → Prop, (∀ st' a' w' g', Q st' → Rel w0 g0 st' a' w' g' → K a' w') → mUpon P o a w K ((execOp a.eval o).run P w)
theorem TX.opM {ops : Array Oper} {i : Nat} {l : List (Nat × Bool)} {Q : St → Prop} {o : Oper} {tl : List Oper} (hd0 : ops.toList.drop i = o :: tl) (hg : yes ops st o)
  (h : ∀ K : St → Prop, (∀ st', TX P w0 g0 ops l st' Q → K st') → OpM P w0 g0 o st K) : TX P w0 g0 ops ((i, true) :: l) st Q := fun listed hs he a w g hR Q' hQ => by
 have hi := at_drop hd0
 simp only [eager, Bool.and_eq_true, if_true, beq_iff_eq] at he
 refine wpAnyM_only he.1 ?_
 unfold mOp
 simp only [hi, yes_of hg hR, if_true]
 exact h _ (fun _ h => h) a w g hR _ fun st' a' w' g' hq hR' => hq _ hs he.2 a' w' g' hR' Q' hQ
theorem Gives.later {w w' : World} {k : Nat} {r : Res} {v : Value} {g' : Gh} (h : Gives w k r v w' g') : Later w w' := ⟨h.os, h.tape, h.output, h.size, h.block⟩
theorem OpM.call {o : Oper} {Q : St → Prop} {f : FuncId} {cx : Operand} {args : List Operand} {tys : Array TypeId} {fn : Func} (ho : o.op = .call { callee := .value cx, args := args.toArray, argTypes := tys })
  (hcx : T.opd 0 st cx = some (.fn f [])) (hf : P.funcs[f]? = some fn) (hb : fn.body.isNone = false)
  (hn : (fn.name == "runtime.NumGoroutine") = false) {k : Nat} (hd : o.dst = some k) {ts ts' : List TS} (hx : opds st args = some ts) (hs : Snaps st ts ts') {R : Res → Prop} (hc : FunK P w0 g0 f ts' R)
  (hok : ∀ r, R r → okS k r.row.length (r.val k) = true) (hq : ∀ r, R r → Q ((st.called k r).put (some k) (r.val k))) (hkp : k < 1000000 := by decide) : OpM P w0 g0 o st Q := fun a w g hR K hK => by
 have h1 := hR.opds hx
 have h2 := hs.get
 have hcall := hc w hR.ks.kept { g with o := allRo w } (args.map a.eval).toArray k rfl (by simp [h1.1, h2.1]) (fun i t' u hi hu => by
  obtain ⟨t, h3, h4⟩ := h2.2 i t' hi
  exact hR.snap h4 (h1.2 i t u h3 (by simpa using hu)) _ rfl)
 rw [run_enter hR ho hcx hf hb hn w]
 refine ⟨Later.refl w, hcall.mono fun e w' ⟨v, r, g', he, hr, hG⟩ => ?_⟩
 obtain ⟨g2, hR2, hv2⟩ := hR.called hkp hG (hok r hr)
 refine ⟨v, he, hG.later, hK _ _ _ g2 (hq r hr) ?_⟩
 rw [hd]
 exact hR2.put hv2 (some k)
theorem OpM.callL {o : Oper} {Q : St → Prop} {f : FuncId} {cx : Operand} {args : List Operand} {tys : Array TypeId} {fn : Func} (ho : o.op = .call { callee := .value cx, args := args.toArray, argTypes := tys })
  (hcx : T.opd 0 st cx = some (.fn f [])) (hf : P.funcs[f]? = some fn)
  (hb : fn.body.isNone = false) (hn : (fn.name == "runtime.NumGoroutine") = false) {k : Nat} (hd : o.dst = some k) {ts ts' : List TS} (hx : opds st args = some ts) {sz : Nat} {ds : List D} (hc : FunK P w0 g0 f ts' (RL sz ds))
  (hs : Snaps st ts ts') (hq : Q ((st.fresh k ⟨false, [.own (.sl sz ds)]⟩).put (some k) (.one (.c (.ref ⟨k, [], 0⟩))))) (hkp : k < 1000000 := by decide) : OpM P w0 g0 o st Q :=
 OpM.call ho hcx hf hb hn hd hx hs hc (fun r hr => by subst hr; simp [okS, okV, okC]) (fun r hr => by subst hr; exact hq) hkp
theorem OpM.callG {o : Oper} {Q : St → Prop} {f : FuncId} {cx : Operand} {args : List Operand} {tys : Array TypeId} {fn : Func} (ho : o.op = .call { callee := .value cx, args := args.toArray, argTypes := tys })
  (hcx : T.opd 0 st cx = some (.fn f [])) (hf : P.funcs[f]? = some fn)
  (hb : fn.body.isNone = false) (hn : (fn.name == "runtime.NumGoroutine") = false) {k : Nat} (hd : o.dst = some k) {ts ts' : List TS} (hx : opds st args = some ts) {l : List RD} (hc : FunK P w0 g0 f ts' (RG l))
  (hs : Snaps st ts ts') (hok : (cellsD l).all okD = true) (hq : Q ((st.fresh k ⟨false, ((cellsD l).filter isSl).map C.own⟩).put (some k) (resT (valsD k 0 l)))) (hkp : k < 1000000 := by decide) : OpM P w0 g0 o st Q :=
 OpM.call ho hcx hf hb hn hd hx hs hc (fun r hr => by subst hr; exact okS_resG hok) (fun r hr => by subst hr; exact hq) hkp
theorem TX.callF {ops : Array Oper} {i : Nat} {l : List (Nat × Bool)} {st' : St} {Q : St → Prop} {o : Oper} {tl : List Oper} (hd0 : ops.toList.drop i = o :: tl) (hg : yes ops st o) {f : FuncId} {cx : Operand} {args : List Operand} {tys : Array TypeId} {fn : Func}
  (ho : o.op = .call { callee := .value cx, args := args.toArray, argTypes := tys }) (hcx : T.opd 0 st cx = some (.fn f [])) (hf : P.funcs[f]? = some fn) (hb : fn.body.isNone = false)
  (hn : (fn.name == "runtime.NumGoroutine") = false) {ts ts' : List TS} (hx : opds st args = some ts) {t : TS} {x : Value} (hc : FunK P w0 g0 f ts' (RP t)) (hs : Snaps st ts ts') (hp : freeS t = some x)
  (hpt : st.put o.dst t = st') (hq : TX P w0 g0 ops l st' Q) : TX P w0 g0 ops ((i, true) :: l) st Q := TX.opM hd0 hg fun K hK a w g hR K' hK' => by
 have h1 := hR.opds hx
 have h2 := hs.get
 have hcall := hc w hR.ks.kept { g with o := allRo w } (args.map a.eval).toArray 0 rfl (by simp [h1.1, h2.1]) (fun i t' u hi hu => by
  obtain ⟨t, h3, h4⟩ := h2.2 i t' hi
  exact hR.snap h4 (h1.2 i t u h3 (by simpa using hu)) _ rfl)
 rw [run_enter hR ho hcx hf hb hn w]
 refine ⟨Later.refl w, hcall.mono fun e w' ⟨v, r, g', he, hr, hG⟩ => ?_⟩
 have h5 := hG.val
 rw [hr] at h5
 have h6 := (freeS_inv hp).1 h5
 subst h6
 exact ⟨v, he, hG.later, hK' _ _ _ _ (hK _ hq) (hpt ▸ (hR.later hG.later).put ((freeS_inv hp).2 rfl) o.dst)⟩
end
end Go.Proofs.Ytcmoifejjodgcaa.T
namespace Go.Proofs.Ytcmoifejjodgcaa.T
open Go
set_option linter.unusedVariables false
set_option linter.unusedSimpArgs false
abbrev U : TS := .tup []
section
variable {P : Program} {w0 : World} {g0 : Gh} {st : St}
theorem U_mk {w : World} {g : Gh} : RepS w g U undef := .tup [] #[] rfl (fun j t u h _ => by simp at h)
theorem U_inv {w : World} {g : Gh} {u : Value} (h : RepS w g U u) : u = undef := by
 cases h with
 | tup _ us hs _ =>
  have : us = #[] := Array.eq_empty_of_size_eq_zero (by simpa using hs)
  rw [this]
  rfl
theorem yielded_none {ops : Array Oper} {a : Act} {w : World} {g : Gh} (hR : Rel w0 g0 st a w g) {j : Nat} (h : guardOf ops st j = some U) : yielded ops a.tmps j = none := by
 unfold guardOf at h
 unfold yielded
 cases hd : (ops[j]?).bind (·.dst) with
 | none => rw [hd] at h; cases h
 | some d =>
  rw [hd] at h
  simp only [Option.bind_some] at h ⊢
  have h1 := U_inv (hR.tm d _ h)
  rw [Array.getD_eq_getD_getElem?] at h1
  cases h2 : a.tmps[d]? with
  | none => rfl
  | some v =>
   rw [h2] at h1
   simp only [Option.getD_some] at h1
   subst h1
   rfl
def nope (ops : Array Oper) (st : St) (o : Oper) : Prop := ∃ j want, o.guard = some (j, want) ∧ (guardOf ops st j = some U ∨ ∃ b, guardOf ops st j = some (V (.bool b)) ∧ b = !want)
theorem nope_b {ops : Array Oper} {o : Oper} {j : Nat} {want b : Bool} (hg : o.guard = some (j, want)) (hb : guardOf ops st j = some (V (.bool b))) (he : b = !want) : nope ops st o := ⟨j, want, hg, .inr ⟨b, hb, he⟩⟩
theorem nope_u {ops : Array Oper} {o : Oper} {j : Nat} {want : Bool} (hg : o.guard = some (j, want)) (hb : guardOf ops st j = some U) : nope ops st o := ⟨j, want, hg, .inl hb⟩
theorem nope_of {ops : Array Oper} {o : Oper} {a : Act} {w : World} {g : Gh} (h : nope ops st o) (hR : Rel w0 g0 st a w g) : Region.wanted o (yielded ops a.tmps) = false := by
 obtain ⟨j, want, hg, h | ⟨b, hb, he⟩⟩ := h
 ·simp [Region.wanted, hg, yielded_none hR h]
 ·simp [Region.wanted, hg, yielded_of hR hb, he]
theorem TL.skip {ops : Array Oper} {o : Oper} {rest : List Oper} {st' : St} {Q : St → Prop} (hn : nope ops st o) (hp : st.put o.dst U = st') (h : TL P w0 g0 ops rest st' Q) : TL P w0 g0 ops (o :: rest) st Q :=
 fun a w g hR Q' hQ => wpList_step fun K hK => by
  rw [if_neg (by simp [nope_of hn hR])]
  exact hK _ _ (h _ _ _ (hp ▸ hR.put U_mk o.dst) Q' hQ)
theorem TQ.skip {ops : Array Oper} {o : Oper} {rest : List Oper} {st' : St} {Q : St → Prop} (hn : nope ops st o) (hp : st.put o.dst U = st') (h : TQ P w0 g0 ops rest st' Q) : TQ P w0 g0 ops (o :: rest) st Q :=
 fun a w g hR Q' hQ => by
  refine wpQuiet_step fun K hK => ?_
  rw [if_neg (by simp [nope_of hn hR])]
  exact hK _ (h _ _ _ (hp ▸ hR.put U_mk o.dst) Q' hQ)
theorem TX.skip {ops : Array Oper} {i : Nat} {b : Bool} {l : List (Nat × Bool)} {st' : St} {Q : St → Prop} {o : Oper} {tl : List Oper} (hd0 : ops.toList.drop i = o :: tl) (hn : nope ops st o) (hp : st.put o.dst U = st')
  (hq : TX P w0 g0 ops l st' Q) : TX P w0 g0 ops ((i, b) :: l) st Q := TX.quiet hd0 (fun a w g hR => ⟨undef, .inr ⟨nope_of hn hR, rfl⟩, hp ▸ hR.put U_mk o.dst⟩) hq
def RC (w : World) (g : Gh) (cs : List C) (us : List Value) : Prop := us.length = cs.length ∧ ∀ (j : Nat) c u, cs[j]? = some c → us[j]? = some u → RepV w g c u
theorem RC.append {w : World} {g : Gh} {a b : List C} {x y : List Value} (h : RC w g a x) (h' : RC w g b y) : RC w g (a ++ b) (x ++ y) := by
 refine ⟨by simp [h.1, h'.1], fun j c u hc hu => ?_⟩
 rcases Nat.lt_or_ge j a.length with hj | hj
 ·rw [List.getElem?_append_left hj] at hc
  rw [List.getElem?_append_left (by rw [h.1]; exact hj)] at hu
  exact h.2 j c u hc hu
 ·rw [List.getElem?_append_right hj] at hc
  rw [List.getElem?_append_right (by rw [h.1]; exact hj), h.1] at hu
  exact h'.2 _ c u hc hu
theorem RC.take {w : World} {g : Gh} {a : List C} {x : List Value} (n : Nat) (h : RC w g a x) : RC w g (a.take n) (x.take n) := by
 refine ⟨by simp [h.1], fun j c u hc hu => ?_⟩
 rw [List.getElem?_take] at hc hu
 split at hc
 ·rename_i hj
  rw [if_pos hj] at hu
  exact h.2 j c u hc hu
 ·cases hc
theorem RC.drop {w : World} {g : Gh} {a : List C} {x : List Value} (n : Nat) (h : RC w g a x) : RC w g (a.drop n) (x.drop n) := by
 refine ⟨by simp [h.1], fun j c u hc hu => ?_⟩
 rw [List.getElem?_drop] at hc hu
 exact h.2 _ c u hc hu
theorem fold_set (off : Nat) : ∀ (l : List Value) (k : Nat) (cs : Array Value), off + k + l.length ≤ cs.size →
  ((l.zipIdx k).foldl (fun cs (p : Value × Nat) => cs.setIfInBounds (off + p.2) p.1) cs).toList = cs.toList.take (off + k) ++ l ++ cs.toList.drop (off + k + l.length)
 | [], k, cs, h => by simp
 | v :: l, k, cs, h => by
  simp only [List.length_cons] at h
  have ih := fold_set off l (k + 1) (cs.setIfInBounds (off + k) v) (by simp; omega)
  rw [List.zipIdx_cons, List.foldl_cons, ih]
  simp only [Array.toList_setIfInBounds, List.length_cons]
  have h1 : off + (k + 1) = off + k + 1 := by omega
  rw [h1, List.take_add_one, List.take_set_of_le (by omega), List.getElem?_set_self (by simp; omega), List.drop_set_of_lt (by omega)]
  simp only [Option.toList_some, List.append_assoc, List.singleton_append, List.cons_append, List.nil_append]
  rw [show off + k + 1 + l.length = off + k + (l.length + 1) by omega]
def partC (st : St) (x : Operand) : Option (List C) :=
 match T.opd 1 st x with
 | some (.one (.c .dead)) => none
 | some (.one (.c c)) => some [c]
 | some (.one (.agg cs)) => some cs
 | _ => none
def partsC (st : St) : List (Nat × Operand) → Option (List (Nat × List C))
 | [] => some []
 | (i, x) :: l => match partC st x, partsC st l with | some c, some r => some ((i, c) :: r) | _, _ => none
def fillC (place : List (Nat × Nat)) (cs : List C) : List (Nat × List C) → Option (List C)
 | [] => some cs
 | (i, l) :: rest =>
  match place[i]? with
  | none => none
  | some (off, size) => if Nat.beq l.length size && Nat.ble (off + l.length) cs.length then fillC place (cs.take off ++ l ++ cs.drop (off + l.length)) rest else none
theorem partC_rep {a : Act} {w : World} {g : Gh} (hR : Rel w0 g0 st a w g) {x : Operand} {cs : List C} (h : partC st x = some cs) : RC w g cs (a.eval x).cells.toList := by
 unfold partC at h
 split at h
 ·cases h
 ·rename_i c hne hx
  simp only [Option.some.injEq] at h
  subst h
  have h1 := hR.opd hx
  cases h1 with
  | one _ _ h1 =>
   cases h1 with
   | c _ _ h1 =>
    rw [cells_one (h1.one (fun e => by subst e; first | exact hne rfl | exact hne _ hx | exact hne))]
    refine ⟨rfl, fun j c u hc hu => ?_⟩
    cases j with
    | zero => simp only [List.getElem?_cons_zero, Option.some.injEq] at hc hu; subst hc; subst hu; exact h1
    | succ j => simp at hc
 ·rename_i cs' hx
  simp only [Option.some.injEq] at h
  subst h
  have h1 := hR.opd hx
  generalize a.eval x = v at h1
  cases h1 with
  | one _ _ h1 =>
   cases h1 with
   | agg _ us hs hv => exact ⟨by simpa [Value.cells] using hs, fun j c u hc hu => hv j c u hc (by simpa [Value.cells] using hu)⟩
 ·cases h
theorem fillC_rep {a : Act} {w : World} {g : Gh} (hR : Rel w0 g0 st a w g) {place : List (Nat × Nat)} : ∀ {l : List (Nat × Operand)} {pc : List (Nat × List C)} {cs cs' : List C} {us : Array Value}, partsC st l = some pc →
  fillC place cs pc = some cs' → RC w g cs us.toList → ∃ us' : Array Value, Instr.fill (place.toArray[·]?) us (l.map fun p => (p.1, a.eval p.2)) = some us' ∧ RC w g cs' us'.toList
 | [], pc, cs, cs', us, h1, h2, h3 => by
  simp only [partsC, Option.some.injEq] at h1
  subst h1
  simp only [fillC, Option.some.injEq] at h2
  subst h2
  exact ⟨us, rfl, h3⟩
 | (i, x) :: l, pc, cs, cs', us, h1, h2, h3 => by
  simp only [partsC] at h1
  split at h1
  ·rename_i c r hc hr
   simp only [Option.some.injEq] at h1
   subst h1
   simp only [fillC] at h2
   split at h2
   ·cases h2
   ·rename_i off size hp
    split at h2
    ·rename_i hb
     simp only [Bool.and_eq_true] at hb
     have hb1 := Nat.eq_of_beq_eq_true hb.1
     have hb2 := Nat.le_of_ble_eq_true hb.2
     have hx := partC_rep hR hc
     have hxl : (a.eval x).cells.size = c.length := by simpa using hx.1
     have hul : us.size = cs.length := by simpa using h3.1
     have hfold := fold_set off (a.eval x).cells.toList 0 us (by simp; omega)
     simp only [Nat.add_zero] at hfold
     have hl : (a.eval x).cells.toList.length = c.length := hx.1
     rw [hl] at hfold
     obtain ⟨us', e1, e2⟩ := fillC_rep hR hr h2 (us := (((a.eval x).cells.toList.zipIdx).foldl (fun cs (p : Value × Nat) => cs.setIfInBounds (off + p.2) p.1) us)) (by
      rw [hfold]
      exact ((h3.take off).append hx).append (h3.drop _))
     refine ⟨us', ?_, e2⟩
     rw [← e1]
     have hp' : place.toArray[i]? = some (off, size) := by simpa using hp
     simp only [List.map_cons, Instr.fill, hp']
     rw [if_neg (by simp; omega)]
     congr 1
     rw [← Array.foldl_toList, Array.toList_zipIdx]
    ·cases h2
  ·cases h1
theorem Val.build {o : Oper} {t : TypeId} {parts : List (Nat × Operand)} (ho : o.op = .build t parts.toArray) {pc : List (Nat × List C)} (hp : partsC st parts = some pc) {fs : Array Field} (hu : P.underlying t = some (.struct fs))
  {it : TypeInfo} (hi : P.info? t = some it) {z : Value} (hz : it.zero = some z) {row : List D} (hrow : zeroD P 6 t = some row) (hv : z.cells.toList = row.map zeroV) (hok : row.all zeroOk = true)
  {place : List (Nat × Nat)} (hpl : fs.toList.mapM (fun f => (P.info? f.type).map fun i => (f.offset, i.size)) = some place) {cs : List C} (hf : fillC place (row.map C.ro) pc = some cs) : Val P w0 g0 o st (.one (.agg cs)) :=
 fun a w g hR => by
  have hz0 : RC w g (row.map C.ro) z.cells.toList := by
   refine ⟨by rw [hv]; simp, fun j c u hc hu => ?_⟩
   rw [hv] at hu
   rw [List.getElem?_map, Option.map_eq_some_iff] at hc hu
   obtain ⟨d, hd, rfl⟩ := hc
   obtain ⟨d', hd', rfl⟩ := hu
   rw [hd] at hd'
   cases hd'
   have hk := List.all_eq_true.1 hok d (List.mem_of_getElem? hd)
   cases d with
   | v x => exact Ro.v x hk
   | sl sz ds =>
    cases ds with
    | nil => exact Ro.nil sz none 0
    | cons _ _ => cases hk
   | _ => cases hk
  obtain ⟨us, e1, e2⟩ := fillC_rep hR hp hf hz0
  refine ⟨.agg us, fun w' _ => ?_, .one _ _ (.agg _ us (by simpa using e2.1) fun j c u hc hu => e2.2 j c u hc (by simpa using hu))⟩
  have hb : P.built t (parts.map fun p => (p.1, a.eval p.2)) = some us := by
   unfold Program.built
   simp only [hi, hu, hz, hpl]
   exact e1
  have hrun := run_build (P := P) w' t (parts.toArray.map fun p => (p.1, a.eval p.2)) us (by simpa using hb)
  simp only [List.map_toArray] at hrun
  simp [execOp, ho, hrun]
theorem resL {sz : Nat} {ds ds' : List D} (h : ds = ds') : RL sz ds' ⟨[.sl sz ds], fun k => .one (.c (.ref ⟨k, [], 0⟩))⟩ := by subst h; rfl
end
end Go.Proofs.Ytcmoifejjodgcaa.T
namespace Go.Proofs.Ytcmoifejjodgcaa.T
open Go
set_option linter.unusedVariables false
set_option linter.unusedSimpArgs false
structure Hand where
 mem : Bool
 row : List D
def Hand.k (h : Hand) : Nat := if h.mem then pinB else pinK
theorem Hand.big (h : Hand) : 1000000 ≤ h.k := by unfold Hand.k; split <;> decide
structure Handed (w : World) (g : Gh) (h : Hand) : Prop where
 out : ∀ b, w.heap.size ≤ b → g.o b = .outer
 own : ∀ b, b < w.heap.size → g.o b = .ro ∨ (g.o b).root? = some h.k
 nobox : ∀ b, g.o b ≠ .box pinK
 row : ∀ (q : Nat) d, h.row[q]? = some d → Ow w g h.k [] q d
 mem : h.mem = true → g.o (g.ad pinB []).1 = .box pinB ∧ (∃ cs e, w.heap[(g.ad pinB []).1]? = some (.cells cs e (0, 0))) ∧ ∀ q, q < h.row.length → w.cell? (cellAddr (g.ad pinB []) q) = some (g.cv pinB [] q)
structure Gives2 (w : World) (g : Gh) (h : Hand) (k : Nat) (row' : List D) (r : Res) (v : Value) (w' : World) (g' : Gh) : Prop where
 os : w'.os = w.os
 tape : w'.tape = w.tape
 output : w'.output = w.output
 size : w.heap.size ≤ w'.heap.size
 block : ∀ b, b < w.heap.size → g.o b = .ro → w'.heap[b]? = w.heap[b]?
 own : ∀ b, b < w'.heap.size → (w.heap.size ≤ b ∨ g.o b ≠ .ro) → g'.o b = .ro ∨ (g'.o b).root? = some k ∨ (g'.o b).root? = some h.k
 old : ∀ b, ((g'.o b).root? = some k ∨ (g'.o b).root? = some h.k) → b < w'.heap.size ∧ (w.heap.size ≤ b ∨ g.o b ≠ .ro)
 row : ∀ (q : Nat) d, r.row[q]? = some d → Ow w' g' k [] q d
 hlen : row'.length = h.row.length
 hrow : ∀ (q : Nat) d, row'[q]? = some d → Ow w' g' h.k [] q d
 pinl : h.mem = false → ∀ q, g'.cv pinK [] q = g.cv pinK [] q
 pinb : h.mem = true → g'.ad pinB [] = g.ad pinB [] ∧ g'.o (g'.ad pinB []).1 = .box pinB ∧ (∃ cs e, w'.heap[(g'.ad pinB []).1]? = some (.cells cs e (0, 0))) ∧ ∀ q, q < row'.length → w'.cell? (cellAddr (g'.ad pinB []) q) = some (g'.cv pinB [] q)
 val : RepS w' g' (r.val k) v
def Fun2 (P : Program) (f : FuncId) (h : Hand) (pts : List TS) (R : List D → Res → Prop) : Prop :=
 ∀ (w : World) (g : Gh) (args : Array Value) (k : Nat), k < 1000000 → Handed w g h → args.size = pts.length → (∀ (i : Nat) t u, pts[i]? = some t → args[i]? = some u → RepS w g t u) →
  Calls P f args w fun e w' => ∃ v row' r g', e = .returned v ∧ R row' r ∧ Gives2 w g h k row' r v w' g'
def Ends2 (P : Program) (fn : Func) (h : Hand) (R : List D → Res → Prop) (e : Exit) (st : St) : Prop :=
 (e = .normal ∨ e = .ret) ∧ ∃ (rvs : List ResultVar) (tvs : List TV) (row row' : List D), fn.results = rvs.toArray ∧ rvs.length ≤ 4 ∧ rvs.map (resTV P st) = tvs.map some ∧
  (tvs.flatMap refV).Nodup ∧ contents st (tvs.flatMap refV) = some row ∧ st.root h.k = some ⟨h.mem, row'.map C.own⟩ ∧ row'.length = h.row.length ∧ ((tvs.flatMap refV).all fun s => s.1 != h.k) = true ∧
  R row' ⟨row, fun k => resT (tvs.map (gathV (tvs.flatMap refV) k))⟩
def Gh.gather2 (g : Gh) (srcs : List (Nat × Nat)) (k K : Nat) : Gh where
 o b := match g.o b with
  | .lies k' p q => if k' = K then .lies K p q else match p with
   | [] => match idxOf (k', q) srcs with | some j => .lies k [] j | none => .ro
   | (q1, i) :: r => match idxOf (k', q1) srcs with | some j => .lies k ((j, i) :: r) q | none => .ro
  | .box k' => if k' = K then .box K else .ro
  | t => t
 ad k' p := if k' = K then g.ad K p else match p with | [] => (0, 0) | (j, i) :: r => match srcs[j]? with | some s => g.ad s.1 ((s.2, i) :: r) | none => (0, 0)
 cv k' p q := if k' = K then g.cv K p q else match p with | [] => (match srcs[q]? with | some s => g.cv s.1 [] s.2 | none => undef) | (j, i) :: r => match srcs[j]? with | some s => g.cv s.1 ((s.2, i) :: r) q | none => undef
section
variable {P : Program} {w w' : World} {g0 g : Gh} {st : St} {a : Act}
theorem gathC_rep2 {srcs : List (Nat × Nat)} {k K : Nat} (hkK : k ≠ K) {c : C} {u : Value} (h : RepV w' g c u) : RepV w' (g.gather2 srcs k K) (gathC srcs k c) u := by
 cases c with
 | ro d =>
  cases d with
  | v x =>
   have h3 : Ro w' g.o (.v x) u := h
   cases h3 with
   | v _ hp => exact Ro.v _ hp
  | _ => trivial
 | own d => trivial
 | ref pl =>
  obtain ⟨pk, pp, pq⟩ := pl
  simp only [gathC]
  split
  ·rename_i j h1 h2
   have := idxOf_some h2
   refine ⟨?_, h.2⟩
   simp only [Gh.gather2, this, if_neg hkK]
   exact h.1
  ·trivial
 | dead => trivial
theorem gathV_rep2 {srcs : List (Nat × Nat)} {k K : Nat} (hkK : k ≠ K) {t : TV} {u : Value} (h : RepT w' g t u) : RepT w' (g.gather2 srcs k K) (gathV srcs k t) u := by
 cases h with
 | c c u hv => exact .c _ u (gathC_rep2 hkK hv)
 | agg cs us hs hv =>
  refine .agg _ us (by simpa using hs) fun j c u h1 h2 => ?_
  rw [List.getElem?_map, Option.map_eq_some_iff] at h1
  obtain ⟨c', h1, rfl⟩ := h1
  exact gathC_rep2 hkK (hv j c' u h1 h2)
 | _ => exact .dead _
theorem Rel.gives2 {h : Hand} (hR : Rel w g0 st a w' g) (hH : Handed w g0 h) {srcs : List (Nat × Nat)} (hn : srcs.Nodup) {row row' : List D} (hc : contents st srcs = some row) (hr : st.root h.k = some ⟨h.mem, row'.map C.own⟩)
  (hl : row'.length = h.row.length) (hne : (srcs.all fun s => s.1 != h.k) = true) {k : Nat} (hk : k < 1000000) {T : Nat → TS} {v : Value} (hv : RepS w' (g.gather2 srcs k h.k) (T k) v) :
  Gives2 w g0 h k row' ⟨row, T⟩ v w' (g.gather2 srcs k h.k) := by
 have hkK : k ≠ h.k := by have := h.big; omega
 have hblk : ∀ b, b < w.heap.size → g0.o b = .ro → w'.heap[b]? = w.heap[b]? ∧ g.o b = .ro := fun b hb h1 => by
  obtain ⟨h2, h3⟩ := hR.ks.block b hb (.inl h1)
  exact ⟨h2, h3.trans h1⟩
 have hout : ∀ b, b < w'.heap.size → g.o b ≠ .outer := fun b hb ht => by
  obtain ⟨h1, h2⟩ := hR.ks.old b hb ht
  rcases hH.own b h1 with h3 | h3
  ·rw [h3] at h2; cases h2
  ·rw [h2] at h3; cases h3
 refine ⟨hR.ks.os, hR.ks.tape, hR.ks.output, hR.ks.size, fun b hb h1 => (hblk b hb h1).1, fun b h2 _ => ?_, fun b hb => ⟨?_, ?_⟩, fun q d hq => ?_, hl, fun q d hq => ?_, fun hm q => ?_, fun hm => ?_, hv⟩
 ·simp only [Gh.gather2]
  cases ht : g.o b with
  | ro => exact .inl rfl
  | outer => exact absurd ht (hout b h2)
  | box k' =>
   simp only
   split
   ·exact .inr (.inr rfl)
   ·exact .inl rfl
  | lies k' p q =>
   simp only
   split
   ·exact .inr (.inr rfl)
   ·cases p with
    | nil =>
     simp only
     split
     ·exact .inr (.inl rfl)
     ·exact .inl rfl
    | cons x r =>
     obtain ⟨q1, i⟩ := x
     simp only
     split
     ·exact .inr (.inl rfl)
     ·exact .inl rfl
 ·rcases Nat.lt_or_ge b w'.heap.size with h1 | h1
  ·exact h1
  ·have := hR.ks.fresh b h1
   simp only [Gh.gather2, this] at hb
   rcases hb with hb | hb <;> cases hb
 ·rcases Nat.lt_or_ge b w.heap.size with h1 | h1
  ·refine .inr fun h2 => ?_
   have := (hblk b h1 h2).2
   simp only [Gh.gather2, this] at hb
   rcases hb with hb | hb <;> cases hb
  ·exact .inl h1
 ·obtain ⟨s, h1, h2⟩ := (contents_get hc).2 q d hq
  have hsk : s.1 ≠ h.k := by simpa using List.all_eq_true.1 hne s (List.mem_of_getElem? h1)
  have hO : Ow w' g s.1 [] s.2 d := (hR.cellAt h2).1 d rfl
  have hi := idxOf_get hn h1
  refine Ow.move hO ⟨?_, fun i r q' => ?_, fun i r => ?_, fun b hb => ⟨?_, rfl⟩, fun b i r q' hb => ⟨?_, rfl⟩⟩
  ·simp [Gh.gather2, h1, hkK]
  ·simp [Gh.gather2, h1, hkK]
  ·simp [Gh.gather2, h1, hkK]
  ·simp only [Gh.gather2, hb, hi, if_neg hsk]
  ·simp only [Gh.gather2, hb, List.nil_append, hi, if_neg hsk]
 ·have hO : Ow w' g h.k [] q d := hR.rt.cell h.k _ hr q (.own d) (by simp [hq])
  refine Ow.move hO ⟨?_, fun i r q' => ?_, fun i r => ?_, fun b hb => ⟨?_, rfl⟩, fun b i r q' hb => ⟨?_, rfl⟩⟩
  ·simp [Gh.gather2]
  ·simp [Gh.gather2]
  ·simp [Gh.gather2]
  ·simp [Gh.gather2, hb]
  ·simp [Gh.gather2, hb]
 ·have hK : h.k = pinK := by simp [Hand.k, hm]
  simp only [Gh.gather2, hK, if_true]
  exact hR.ks.pin.1 q
 ·have hK : h.k = pinB := by simp [Hand.k, hm]
  obtain ⟨m1, m2, m3⟩ := hR.rt.mem h.k _ hr hm
  rw [hK] at m1 m2 m3
  have had : (g.gather2 srcs k h.k).ad pinB [] = g.ad pinB [] := by simp [Gh.gather2, hK]
  rw [had]
  refine ⟨hR.ks.pin.2, by simp only [Gh.gather2, m1, hK, if_true], m2, fun q hq => ?_⟩
  have := m3 q (by simpa using hq)
  rw [this]
  simp [Gh.gather2, hK]
theorem Rel.ends2 {fn : Func} {h : Hand} {R : List D → Res → Prop} {e : Exit} {k : Nat} {g' : Gh} (hR : Rel w g st a w' g') (hH : Handed w g h) (hk : k < 1000000) (hE : Ends2 P fn h R e st) :
  ∃ v, (results fn a.tmps).run P w' = .ok v w' ∧ ∃ v_1 row' r g1, Ending.returned v = Ending.returned v_1 ∧ R row' r ∧ (Gives2 w g h k row' r v_1 w' g1 ∧ ∀ p q, g1.cv h.k p q = g'.cv h.k p q) := by
 obtain ⟨he, rvs, tvs, row, row', h1, h2, h3, h4, h5, h6, h7, h8, h9⟩ := hE
 have hkK : k ≠ h.k := by have := h.big; omega
 have hlen : rvs.length = tvs.length := by
  have := congrArg List.length h3
  simpa using this
 obtain ⟨us, hul, hur, hrep0⟩ := hR.resultList h3
 have hrun := run_results (P := P) h1 h2 a.tmps w' hul hur
 have hrep : ∀ (i : Nat) t u, tvs[i]? = some t → us[i]? = some u → RepT w' (g'.gather2 (tvs.flatMap refV) k h.k) (gathV (tvs.flatMap refV) k t) u := fun i t u hi hu => gathV_rep2 hkK (hrep0 i t u hi hu)
 have hval : RepS w' (g'.gather2 (tvs.flatMap refV) k h.k) (resT (tvs.map (gathV (tvs.flatMap refV) k))) (tupV us) := by
  have htup : ∀ l : List Value, l.length = tvs.length → (∀ (i : Nat) t u, tvs[i]? = some t → l[i]? = some u → RepT w' (g'.gather2 (tvs.flatMap refV) k h.k) (gathV (tvs.flatMap refV) k t) u) →
    RepS w' (g'.gather2 (tvs.flatMap refV) k h.k) (.tup (tvs.map (gathV (tvs.flatMap refV) k))) (.tuple l.toArray) := fun l hl hh =>
   .tup _ _ (by simp [hl]) fun j t u hj hu => by
    rw [List.getElem?_map, Option.map_eq_some_iff] at hj
    obtain ⟨t', hj, rfl⟩ := hj
    exact hh j t' u hj (by simpa using hu)
  have hl := htup us (by omega) hrep
  have hlu : us.length = tvs.length := by omega
  clear hrun hur hrep0 h3 h5 h9 h8 h4
  match us, tvs, hlu with
  | [], [], _ => exact hl
  | [t], [tv], _ => exact .one _ _ (hrep 0 tv _ rfl rfl)
  | _ :: _ :: _, _ :: _ :: _, _ => exact hl
 have hG := hR.gives2 hH h4 h5 h6 h7 h8 hk (T := fun k => resT (tvs.map (gathV (tvs.flatMap refV) k))) hval
 exact ⟨_, hrun, _, _, _, _, rfl, h9, hG, fun p q => by simp [Gh.gather2]⟩
theorem Fun2.of {f : FuncId} {fn : Func} {c : Code} {h : Hand} {pts : List TS} {R : List D → Res → Prop} (hf : P.funcs[f]? = some fn) (hb : fn.body = some c) (hn : pts.length ≤ fn.ntmps)
  (hw : ∀ w g0, TC P w g0 c ⟨pts ++ List.replicate (fn.ntmps - pts.length) (.one .dead), [(h.k, ⟨h.mem, h.row.map C.own⟩)]⟩ (Ends2 P fn h R)) : Fun2 P f h pts R := by
 intro w g args k hk hH hsz hargs
 have hroot : ∀ k' r, (⟨pts ++ List.replicate (fn.ntmps - pts.length) (.one .dead), [(h.k, ⟨h.mem, h.row.map C.own⟩)]⟩ : St).root k' = some r → k' = h.k ∧ r = ⟨h.mem, h.row.map C.own⟩ := fun k' r hr => by
  simp only [St.root, List.find?_cons, List.find?_nil] at hr
  split at hr
  ·rename_i e
   simp only [Option.map_some, Option.some.injEq] at hr
   exact ⟨(by simpa using e : h.k = k').symm, hr.symm⟩
  ·cases hr
 refine calls_of_wp hf hb (wp_mono (hw w g _ w g ⟨fun i tv hi => ?_, ?_, rfl, ⟨fun k' r hk' q c hq => ?_, fun k' r hk' hm => ?_⟩, ⟨rfl, rfl, rfl, Nat.le_refl _, fun b hb _ => ⟨rfl, rfl⟩, fun b hb => hH.out b hb, fun b hb ho => ?_, ⟨fun _ => rfl, rfl⟩, hH.nobox⟩⟩) fun e a w' ⟨st, g', hE, hR⟩ => ?_)
 ·by_cases hlt : i < pts.length
  ·rw [List.getElem?_append_left hlt] at hi
   have hi' : i < args.size := by omega
   have h1 : (args ++ Array.replicate (fn.ntmps - args.size) undef).getD i undef = args[i] := by
    rw [Array.getD_eq_getD_getElem?, Array.getElem?_append_left hi', Array.getElem?_eq_getElem hi']
    rfl
   show RepS w g tv ((args ++ Array.replicate (fn.ntmps - args.size) undef).getD i undef)
   rw [h1]
   exact hargs i tv _ hi (Array.getElem?_eq_getElem hi')
  ·rw [List.getElem?_append_right (by omega), List.getElem?_replicate] at hi
   split at hi
   ·simp only [Option.some.injEq] at hi
    subst hi
    exact .one _ _ (.dead _)
   ·cases hi
 ·show (args ++ Array.replicate (fn.ntmps - args.size) undef).size = _
  simp [hsz]
 ·obtain ⟨rfl, rfl⟩ := hroot k' r hk'
  rw [List.getElem?_map, Option.map_eq_some_iff] at hq
  obtain ⟨d, hq, rfl⟩ := hq
  exact hH.row q d hq
 ·obtain ⟨rfl, rfl⟩ := hroot k' r hk'
  have hm' : h.mem = true := hm
  have hK : h.k = pinB := by simp [Hand.k, hm']
  rw [hK]
  obtain ⟨m1, m2, m3⟩ := hH.mem hm'
  exact ⟨m1, m2, fun q hq => m3 q (by simpa using hq)⟩
 ·rcases hH.own b hb with h1 | h1
  ·rw [h1] at ho; cases ho
  ·rw [ho] at h1; cases h1
 ·obtain ⟨v, h1, v1, row', r, g1, h2, h3, h4, _⟩ := hR.ends2 hH hk hE
  have hfin : ∃ v, (results fn a.tmps).run P w' = .ok v w' ∧ ∃ v_1 row' r g1, Ending.returned v = Ending.returned v_1 ∧ R row' r ∧ Gives2 w g h k row' r v_1 w' g1 := ⟨v, h1, v1, row', r, g1, h2, h3, h4⟩
  rcases hE.1 with rfl | rfl
  ·exact ⟨hR.df, hfin⟩
  ·exact ⟨hR.df, hfin⟩
def Fun2K (P : Program) (f : FuncId) (row : List D) (q0 : Nat) (pts : List TS) (R : List D → Res → Prop) : Prop :=
 ∀ (w : World) (g : Gh) (args : Array Value) (k : Nat), k < 1000000 → Handed w g ⟨true, row⟩ → args.size = pts.length → (∀ (i : Nat) t u, pts[i]? = some t → args[i]? = some u → RepS w g t u) →
  Calls P f args w fun e w' => ∃ v row' r g', e = .returned v ∧ R row' r ∧ Gives2 w g ⟨true, row⟩ k row' r v w' g' ∧ g'.cv pinB [] q0 = g.cv pinB [] q0
theorem Fun2K.two {f : FuncId} {row : List D} {q0 : Nat} {pts : List TS} {R : List D → Res → Prop} (h : Fun2K P f row q0 pts R) : Fun2 P f ⟨true, row⟩ pts R := fun w g args k hk hH hsz hargs =>
 (h w g args k hk hH hsz hargs).mono fun e w' ⟨v, row', r, g', h1, h2, h3, _⟩ => ⟨v, row', r, g', h1, h2, h3⟩
theorem Fun2K.of {f : FuncId} {fn : Func} {c : Code} {row : List D} {q0 : Nat} {pts : List TS} {R : List D → Res → Prop} (hf : P.funcs[f]? = some fn) (hb : fn.body = some c) (hn : pts.length ≤ fn.ntmps)
  (hp : pts.map (TS.kill (fun pl => Nat.beq pl.k pinK) fun _ => false) = pts) {sz : Nat} {ds : List D} (hq : row[q0]? = some (.sl sz ds))
  (hw : ∀ w g0, TC P w g0 c ⟨pts ++ List.replicate (fn.ntmps - pts.length) (.one .dead), [(pinB, ⟨true, row.map C.own⟩), (pinK, ⟨false, [.ref ⟨pinB, [], q0⟩]⟩)]⟩
   fun e st => Ends2 P fn ⟨true, row⟩ R e st ∧ ∃ r, st.root pinK = some r ∧ r.row[0]? = some (.ref ⟨pinB, [], q0⟩)) : Fun2K P f row q0 pts R := by
 intro w g args k hk hH hsz hargs
 generalize hgg : ({ o := g.o, ad := g.ad, cv := fun k p q => if k = pinK then (match p with | [] => if q = 0 then g.cv pinB [] q0 else g.cv k p q | _ => g.cv k p q) else g.cv k p q } : Gh) = gg
 have hA : Agree w g w gg (fun pl => Nat.beq pl.k pinK) fun _ => false := by
  subst hgg
  refine ⟨fun b hb => ⟨hb, rfl⟩, fun pl h => ?_, fun _ _ => rfl⟩
  have : pl.k ≠ pinK := fun e => by simp [e] at h
  simp only [if_neg this]
 have hKB : pinB ≠ pinK := by decide
 have hHH : Handed w gg ⟨true, row⟩ := by
  have hcv : ∀ p q, gg.cv pinB p q = g.cv pinB p q := fun p q => by subst hgg; simp only [if_neg hKB]
  have ho : gg.o = g.o := by subst hgg; rfl
  have had : gg.ad = g.ad := by subst hgg; rfl
  refine ⟨fun b hb => ?_, fun b hb => ?_, fun b => ?_, fun q d hq => ?_, fun hm => ?_⟩
  ·rw [ho]; exact hH.out b hb
  ·rw [ho]; exact hH.own b hb
  ·rw [ho]; exact hH.nobox b
  ·exact Ow.move (hH.row q d hq) ⟨hcv _ _, fun i r q' => hcv _ _, fun i r => by rw [had], fun b hb => ⟨by rw [ho]; exact hb, rfl⟩, fun b i r q' hb => ⟨by rw [ho]; exact hb, rfl⟩⟩
  ·have := hH.mem hm
   rw [ho, had]
   simp only [hcv]
   exact this
 have hpin : gg.cv pinK [] 0 = g.cv pinB [] q0 := by subst hgg; simp
 have hB : gg.cv pinB [] q0 = g.cv pinB [] q0 := by subst hgg; simp only [if_neg hKB]
 have hone : (g.cv pinB [] q0).oneCell' = true := by
  cases hH.row q0 _ hq with
  | nil _ _ _ hc => have hc : g.cv pinB [] q0 = _ := hc; rw [hc]; rfl
  | sl _ _ _ _ b off n c cs e hc => have hc : g.cv pinB [] q0 = _ := hc; rw [hc]; rfl
 have hroot : ∀ k' r, (⟨pts ++ List.replicate (fn.ntmps - pts.length) (.one .dead), [(pinB, ⟨true, row.map C.own⟩), (pinK, ⟨false, [.ref ⟨pinB, [], q0⟩]⟩)]⟩ : St).root k' = some r →
   (k' = pinB ∧ r = ⟨true, row.map C.own⟩) ∨ (k' = pinK ∧ r = ⟨false, [.ref ⟨pinB, [], q0⟩]⟩) := fun k' r hr => by
  simp only [St.root, List.find?_cons, List.find?_nil] at hr
  split at hr
  ·rename_i e
   simp only [Option.map_some, Option.some.injEq] at hr
   exact .inl ⟨(by simpa using e : pinB = k').symm, hr.symm⟩
  ·split at hr
   ·rename_i e
    simp only [Option.map_some, Option.some.injEq] at hr
    exact .inr ⟨(by simpa using e : pinK = k').symm, hr.symm⟩
   ·cases hr
 have hargs' : ∀ (i : Nat) t u, pts[i]? = some t → args[i]? = some u → RepS w gg t u := fun i t u hi hu => by
  have h1 := (hargs i t u hi hu).kill hA
  have h2 := congrArg (fun l : List TS => l[i]?) hp
  simp only [List.getElem?_map, hi, Option.map_some, Option.some.injEq] at h2
  rw [h2] at h1
  exact h1
 refine calls_of_wp hf hb (wp_mono (hw w gg _ w gg ⟨fun i tv hi => ?_, ?_, rfl, ⟨fun k' r hk' q c hq => ?_, fun k' r hk' hm => ?_⟩, ⟨rfl, rfl, rfl, Nat.le_refl _, fun b hb _ => ⟨rfl, rfl⟩, fun b hb => hHH.out b hb, fun b hb ho => ?_, ⟨fun _ => rfl, rfl⟩, hHH.nobox⟩⟩) fun e a w' ⟨st, g', ⟨hE, r1, hr1, hr2⟩, hR⟩ => ?_)
 ·by_cases hlt : i < pts.length
  ·rw [List.getElem?_append_left hlt] at hi
   have hi' : i < args.size := by omega
   have h1 : (args ++ Array.replicate (fn.ntmps - args.size) undef).getD i undef = args[i] := by
    rw [Array.getD_eq_getD_getElem?, Array.getElem?_append_left hi', Array.getElem?_eq_getElem hi']
    rfl
   show RepS w gg tv ((args ++ Array.replicate (fn.ntmps - args.size) undef).getD i undef)
   rw [h1]
   exact hargs' i tv _ hi (Array.getElem?_eq_getElem hi')
  ·rw [List.getElem?_append_right (by omega), List.getElem?_replicate] at hi
   split at hi
   ·simp only [Option.some.injEq] at hi
    subst hi
    exact .one _ _ (.dead _)
   ·cases hi
 ·show (args ++ Array.replicate (fn.ntmps - args.size) undef).size = _
  simp [hsz]
 ·rcases hroot k' r hk' with ⟨rfl, rfl⟩ | ⟨rfl, rfl⟩
  ·rw [List.getElem?_map, Option.map_eq_some_iff] at hq
   obtain ⟨d, hq, rfl⟩ := hq
   exact hHH.row q d hq
  ·cases q with
   | zero =>
    simp only [List.getElem?_cons_zero, Option.some.injEq] at hq
    subst hq
    show gg.cv pinK [] 0 = gg.cv pinB [] q0 ∧ (gg.cv pinK [] 0).oneCell' = true
    rw [hpin, hB]
    exact ⟨rfl, hone⟩
   | succ q => simp at hq
 ·rcases hroot k' r hk' with ⟨rfl, rfl⟩ | ⟨rfl, rfl⟩
  ·obtain ⟨m1, m2, m3⟩ := hHH.mem rfl
   exact ⟨m1, m2, fun q hq => m3 q (by simpa using hq)⟩
  ·cases hm
 ·rcases hHH.own b hb with h1 | h1
  ·rw [h1] at ho; cases ho
  ·rw [ho] at h1; cases h1
 ·have hrep : g'.cv pinK [] 0 = g'.cv pinB [] q0 := (hR.rt.cell pinK r1 hr1 0 _ hr2).1
  have hkp : g'.cv pinK [] 0 = gg.cv pinK [] 0 := hR.ks.pin.1 0
  obtain ⟨v, h1, v1, row', r, g1, h2, h3, h4, h5⟩ := hR.ends2 hHH hk hE
  have h6 : g1.cv pinB [] q0 = g.cv pinB [] q0 := by rw [show g1.cv pinB [] q0 = g'.cv pinB [] q0 from h5 [] q0, ← hrep, hkp, hpin]
  have h7 : Gives2 w g ⟨true, row⟩ k row' r v1 w' g1 := by
   have ho : gg.o = g.o := by subst hgg; rfl
   have had : gg.ad = g.ad := by subst hgg; rfl
   refine ⟨h4.os, h4.tape, h4.output, h4.size, fun b hb hx => h4.block b hb (by rw [ho]; exact hx), fun b hb hx => h4.own b hb (by rw [ho]; exact hx), fun b hx => by rw [← ho]; exact h4.old b hx, h4.row, h4.hlen, h4.hrow, fun hm => (by cases hm), fun hm => by rw [← had]; exact h4.pinb hm, h4.val⟩
  have hfin : ∃ v, (results fn a.tmps).run P w' = .ok v w' ∧ ∃ v_1 row' r g1, Ending.returned v = Ending.returned v_1 ∧ R row' r ∧ Gives2 w g ⟨true, row⟩ k row' r v_1 w' g1 ∧ g1.cv pinB [] q0 = g.cv pinB [] q0 := ⟨v, h1, v1, row', r, g1, h2, h3, h7, h6⟩
  rcases hE.1 with rfl | rfl
  ·exact ⟨hR.df, hfin⟩
  ·exact ⟨hR.df, hfin⟩
end
def topOf (pl : Pl) : Nat := match pl.p with | [] => pl.q | (q, _) :: _ => q
def Gh.hand (g : Gh) (n : Nat) (srcs : List (Nat × Nat)) (bx : Option Nat) (K : Nat) : Gh where
 o b := if n ≤ b then .outer else match g.o b with
  | .lies k' p q => (match p with
   | [] => match idxOf (k', q) srcs with | some j => .lies K [] j | none => .ro
   | (q1, i) :: r => match idxOf (k', q1) srcs with | some j => .lies K ((j, i) :: r) q | none => .ro)
  | .box k' => if bx = some k' then .box K else .ro
  | _ => .ro
 ad k' p := if k' = K then (match p with | [] => g.ad (bx.getD 0) [] | (j, i) :: r => match srcs[j]? with | some s => g.ad s.1 ((s.2, i) :: r) | none => (0, 0)) else g.ad k' p
 cv k' p q := if k' = K then (match p with | [] => (match srcs[q]? with | some s => g.cv s.1 [] s.2 | none => undef) | (j, i) :: r => match srcs[j]? with | some s => g.cv s.1 ((s.2, i) :: r) q | none => undef) else g.cv k' p q
def backT (srcs : List (Nat × Nat)) (bx : Option Nat) (K kd : Nat) : Tag → Tag
 | .lies k' p q => if k' = K then (match p with
   | [] => match srcs[q]? with | some s => .lies s.1 [] s.2 | none => .ro
   | (j, i) :: r => match srcs[j]? with | some s => .lies s.1 ((s.2, i) :: r) q | none => .ro)
  else if k' = kd then .lies kd p q else .ro
 | .box k' => if k' = K then (match bx with | some kb => .box kb | none => .ro) else .ro
 | _ => .ro
def Tag.isRo : Tag → Bool
 | .ro => true
 | _ => false
theorem isRo_iff {t : Tag} : t.isRo = true ↔ t = .ro := by cases t <;> simp [Tag.isRo]
def Gh.back (g gc g' : Gh) (n n' : Nat) (srcs : List (Nat × Nat)) (bx : Option Nat) (K kd : Nat) : Gh where
 o b := if b < n ∧ (gc.o b).isRo = true then g.o b else if b < n' then backT srcs bx K kd (g'.o b) else .outer
 ad k' p := if k' = kd then g'.ad kd p else match p with
  | [] => g.ad k' []
  | (q, i) :: r => match idxOf (k', q) srcs with | some j => g'.ad K ((j, i) :: r) | none => g.ad k' ((q, i) :: r)
 cv k' p q := if k' = kd then g'.cv kd p q else match p with
  | [] => (match idxOf (k', q) srcs with | some j => g'.cv K [] j | none => g.cv k' [] q)
  | (q1, i) :: r => match idxOf (k', q1) srcs with | some j => g'.cv K ((j, i) :: r) q | none => g.cv k' ((q1, i) :: r) q
def killR (srcs : List (Nat × Nat)) (mem : Bool) (kd : Nat) (pl : Pl) : Bool := pl.k == kd || (srcs.contains (pl.k, topOf pl) && (mem || !pl.p.isEmpty))
def killP (srcs : List (Nat × Nat)) (kd : Nat) (pl : Pl) : Bool := pl.k == kd || (srcs.contains (pl.k, topOf pl) && !pl.p.isEmpty)
def handRow (srcs : List (Nat × Nat)) (rows : List D) (pr : Pl → Bool) (k : Nat) : Nat → List C → List C
 | _, [] => []
 | q, c :: l => (match idxOf (k, q) srcs with | some j => (match rows[j]? with | some d => .own d | none => .dead) | none => c.kill pr) :: handRow srcs rows pr k (q + 1) l
theorem handRow_get (srcs : List (Nat × Nat)) (rows : List D) (pr : Pl → Bool) (k : Nat) : ∀ (l : List C) (q0 q : Nat) (c' : C), (handRow srcs rows pr k q0 l)[q]? = some c' →
  ∃ c, l[q]? = some c ∧ c' = (match idxOf (k, q0 + q) srcs with | some j => (match rows[j]? with | some d => .own d | none => .dead) | none => c.kill pr)
 | [], q0, q, c', h => by simp [handRow] at h
 | c :: l, q0, 0, c', h => by
  simp only [handRow, List.getElem?_cons_zero, Option.some.injEq] at h
  exact ⟨c, rfl, h.symm⟩
 | c :: l, q0, q + 1, c', h => by
  simp only [handRow, List.getElem?_cons_succ] at h
  obtain ⟨c1, h1, h2⟩ := handRow_get srcs rows pr k l (q0 + 1) q c' h
  exact ⟨c1, by simpa using h1, by rw [h2, show q0 + 1 + q = q0 + (q + 1) by omega]⟩
theorem handRow_len (srcs : List (Nat × Nat)) (rows : List D) (pr : Pl → Bool) (k : Nat) : ∀ (l : List C) (q0 : Nat), (handRow srcs rows pr k q0 l).length = l.length
 | [], _ => rfl
 | c :: l, q0 => by simp [handRow, handRow_len srcs rows pr k l]
def St.handed (st : St) (srcs : List (Nat × Nat)) (mem : Bool) (rows : List D) (kd : Nat) : St :=
 ⟨st.tmps.map (TS.kill (killR srcs mem kd) (killP srcs kd)), (st.roots.filter fun x => x.1 != kd).map fun x => (x.1, ⟨x.2.mem, handRow srcs rows (killR srcs mem kd) x.1 0 x.2.row⟩)⟩
theorem root_handed (st : St) (srcs : List (Nat × Nat)) (mem : Bool) (rows : List D) (kd k : Nat) : (st.handed srcs mem rows kd).root k =
  if k = kd then none else (st.root k).map fun r => ⟨r.mem, handRow srcs rows (killR srcs mem kd) k 0 r.row⟩ := by
 obtain ⟨tm, roots⟩ := st
 simp only [St.root, St.handed]
 induction roots with
 | nil => simp
 | cons x l ih =>
  obtain ⟨i, r⟩ := x
  by_cases h1 : i = kd
  ·subst h1
   simp only [List.filter_cons, bne_self_eq_false, Bool.false_eq_true, if_false, ih]
   by_cases h2 : k = i
   ·simp [h2]
   ·have : (i == k) = false := by simpa using fun e => h2 e.symm
    simp [h2, List.find?_cons, this]
  ·have h1' : (i != kd) = true := by simpa using h1
   simp only [List.filter_cons, h1', if_true, List.map_cons, List.find?_cons]
   by_cases h2 : i = k
   ·subst h2
    simp [h1]
   ·have : (i == k) = false := by simpa using h2
    simp only [this, ih]
def boxSrc (kb n : Nat) : List (Nat × Nat) := (List.range n).map fun q => (kb, q)
structure CanHand (st : St) (h : Hand) (srcs : List (Nat × Nat)) (bx : Option Nat) (kd : Nat) : Prop where
 nodup : srcs.Nodup
 cont : contents st srcs = some h.row
 kdl : kd < 1000000
 nkd : ∀ s ∈ srcs, s.1 ≠ kd
 box : if h.mem then ∃ kb r, bx = some kb ∧ st.root kb = some r ∧ r.mem = true ∧ srcs = boxSrc kb h.row.length ∧ r.row.length = h.row.length ∧ kb ≠ kd else bx = none
inductive GiveC (st : St) (srcs : List (Nat × Nat)) (K : Nat) : C → C → Prop
 | ro (d : D) : GiveC st srcs K (.ro d) (.ro d)
 | hand {k q j : Nat} (h : idxOf (k, q) srcs = some j) : GiveC st srcs K (.ref ⟨k, [], q⟩) (.ref ⟨K, [], j⟩)
 | deep {k q1 i q j : Nat} {r : List (Nat × Nat)} (h : idxOf (k, q1) srcs = some j) : GiveC st srcs K (.ref ⟨k, (q1, i) :: r, q⟩) (.ref ⟨K, (j, i) :: r, q⟩)
 | snap {pl : Pl} {d : D} (h : st.cellAt pl = some (.own d)) (hw : Whole d) (hn : (srcs.all fun s => s.1 != pl.k) = true) : GiveC st srcs K (.ref pl) (.ro d)
inductive GiveCs (st : St) (srcs : List (Nat × Nat)) (K : Nat) : List C → List C → Prop
 | nil : GiveCs st srcs K [] []
 | cons {c c' : C} {l l' : List C} (h : GiveC st srcs K c c') (hl : GiveCs st srcs K l l') : GiveCs st srcs K (c :: l) (c' :: l')
inductive GiveS (st : St) (srcs : List (Nat × Nat)) (bx : Option Nat) (K : Nat) : TS → TS → Prop
 | c {c c' : C} (h : GiveC st srcs K c c') : GiveS st srcs bx K (.one (.c c)) (.one (.c c'))
 | agg {cs cs' : List C} (h : GiveCs st srcs K cs cs') : GiveS st srcs bx K (.one (.agg cs)) (.one (.agg cs'))
 | ptr {kb q : Nat} (h : bx = some kb) : GiveS st srcs bx K (.one (.ptr ⟨kb, [], q⟩)) (.one (.ptr ⟨K, [], q⟩))
 | ptrD {kb q1 i q j : Nat} {r : List (Nat × Nat)} (hi : idxOf (kb, q1) srcs = some j) : GiveS st srcs bx K (.one (.ptr ⟨kb, (q1, i) :: r, q⟩)) (.one (.ptr ⟨K, (j, i) :: r, q⟩))
 | cptr (ds : List D) : GiveS st srcs bx K (.one (.cptr ds)) (.one (.cptr ds))
 | fn (f : FuncId) : GiveS st srcs bx K (.fn f []) (.fn f [])
 | fnC (f : FuncId) (caps : List TV) (h : caps.all capV = true) : GiveS st srcs bx K (.fn f caps) (.fn f caps)
 | fnX (f : FuncId) {kb q : Nat} (h : bx = some kb) : GiveS st srcs bx K (.fn f [.ptr ⟨kb, [], q⟩]) (.fn f [.ptr ⟨K, [], q⟩])
inductive GivesAll (st : St) (srcs : List (Nat × Nat)) (bx : Option Nat) (K : Nat) : List TS → List TS → Prop
 | nil : GivesAll st srcs bx K [] []
 | cons {t t' : TS} {ts ts' : List TS} (h : GiveS st srcs bx K t t') (hs : GivesAll st srcs bx K ts ts') : GivesAll st srcs bx K (t :: ts) (t' :: ts')
theorem GiveCs.get {st : St} {srcs : List (Nat × Nat)} {K : Nat} {cs cs' : List C} (h : GiveCs st srcs K cs cs') : cs'.length = cs.length ∧ ∀ (j : Nat) c', cs'[j]? = some c' → ∃ c, cs[j]? = some c ∧ GiveC st srcs K c c' := by
 induction h with
 | nil => exact ⟨rfl, fun j c h => by simp at h⟩
 | cons h hl ih =>
  refine ⟨by simp [ih.1], fun j c' hj => ?_⟩
  cases j with
  | zero =>
   simp only [List.getElem?_cons_zero, Option.some.injEq] at hj
   subst hj
   exact ⟨_, rfl, h⟩
  | succ j => exact ih.2 j c' (by simpa using hj)
theorem GivesAll.get {st : St} {srcs : List (Nat × Nat)} {bx : Option Nat} {K : Nat} {ts ts' : List TS} (h : GivesAll st srcs bx K ts ts') : ts'.length = ts.length ∧ ∀ (i : Nat) t', ts'[i]? = some t' → ∃ t, ts[i]? = some t ∧ GiveS st srcs bx K t t' := by
 induction h with
 | nil => exact ⟨rfl, fun i t' hi => by simp at hi⟩
 | cons h hs ih =>
  refine ⟨by simp [ih.1], fun i t' hi => ?_⟩
  cases i with
  | zero =>
   simp only [List.getElem?_cons_zero, Option.some.injEq] at hi
   subst hi
   exact ⟨_, rfl, h⟩
  | succ i => exact ih.2 i t' (by simpa using hi)
section
variable {P : Program} {w0 : World} {g0 : Gh} {st : St} {a : Act} {w w' : World} {g g' : Gh} {h : Hand} {srcs : List (Nat × Nat)} {bx : Option Nat} {kd : Nat}
theorem hand_o (g : Gh) (n : Nat) (srcs : List (Nat × Nat)) (bx : Option Nat) (K : Nat) {b : Nat} (hb : b < n) (h : g.o b = .ro ∨ g.o b = .outer) : (g.hand n srcs bx K).o b = .ro := by
 simp only [Gh.hand, if_neg (Nat.not_le.2 hb)]
 rcases h with h | h <;> rw [h]
theorem CanHand.boxNone (hC : CanHand st h srcs bx kd) (hm : h.mem = false) : bx = none := by
 have := hC.box
 rw [hm] at this
 simpa using this
theorem CanHand.boxSome (hC : CanHand st h srcs bx kd) (hm : h.mem = true) : ∃ kb r, bx = some kb ∧ st.root kb = some r ∧ r.mem = true ∧ srcs = boxSrc kb h.row.length ∧ r.row.length = h.row.length ∧ kb ≠ kd := by
 have := hC.box
 rw [hm] at this
 simpa using this
theorem Rel.handed (hR : Rel w0 g0 st a w g) (hC : CanHand st h srcs bx kd) : Handed w (g.hand w.heap.size srcs bx h.k) h := by
 refine ⟨fun b hb => by simp [Gh.hand, hb], fun b hb => ?_, fun b => ?_, fun q d hq => ?_, fun hm => ?_⟩
 ·simp only [Gh.hand, if_neg (Nat.not_le.2 hb)]
  split
  ·split
   ·split
    ·exact .inr rfl
    ·exact .inl rfl
   ·split
    ·exact .inr rfl
    ·exact .inl rfl
  ·split
   ·exact .inr rfl
   ·exact .inl rfl
  ·exact .inl rfl
 ·intro hb
  simp only [Gh.hand] at hb
  split at hb
  ·cases hb
  ·split at hb
   ·split at hb <;> split at hb <;> cases hb
   ·rename_i k' hk'
    split at hb
    ·rename_i e
     simp only [Tag.box.injEq] at hb
     cases hm : h.mem with
     | false => rw [hC.boxNone hm] at e; cases e
     | true => simp [Hand.k, hm] at hb
    ·cases hb
   ·cases hb
 ·obtain ⟨s, h1, h2⟩ := (contents_get hC.cont).2 q d hq
  have hO : Ow w g s.1 [] s.2 d := (hR.cellAt h2).1 d rfl
  have hi := idxOf_get hC.nodup h1
  have hlt : ∀ b, g.o b ≠ .outer → b < w.heap.size := fun b hb => by
   rcases Nat.lt_or_ge b w.heap.size with h | h
   ·exact h
   ·exact absurd (hR.ks.fresh b h) hb
  refine Ow.move hO ⟨?_, fun i r q' => ?_, fun i r => ?_, fun b hb => ⟨?_, rfl⟩, fun b i r q' hb => ⟨?_, rfl⟩⟩
  ·simp [Gh.hand, h1]
  ·simp [Gh.hand, h1]
  ·simp [Gh.hand, h1]
  ·have := hlt b (by rw [hb]; simp)
   simp only [Gh.hand, if_neg (Nat.not_le.2 this), hb, hi]
  ·have := hlt b (by rw [hb]; simp)
   simp only [Gh.hand, if_neg (Nat.not_le.2 this), hb, List.nil_append, hi]
 ·obtain ⟨kb, r, e1, e2, e3, e4, e5, e6⟩ := hC.boxSome hm
  have hK : h.k = pinB := by simp [Hand.k, hm]
  obtain ⟨m1, ⟨cs, e, m2⟩, m3⟩ := hR.rt.mem kb r e2 e3
  have had : (g.hand w.heap.size srcs bx h.k).ad pinB [] = g.ad kb [] := by simp [Gh.hand, hK, e1]
  have hlt := lt_of_heap m2
  rw [had]
  refine ⟨by simp only [Gh.hand, if_neg (Nat.not_le.2 hlt), m1, e1, if_true, hK], ⟨cs, e, m2⟩, fun q hq => ?_⟩
  rw [m3 q (by omega)]
  simp [Gh.hand, hK, e4, boxSrc, hq]
theorem Rel.giveC (hR : Rel w0 g0 st a w g) (hC : CanHand st h srcs bx kd) {c c' : C} {u : Value} (hg : GiveC st srcs h.k c c') (hu : RepV w g c u) : RepV w (g.hand w.heap.size srcs bx h.k) c' u := by
 cases hg with
 | ro d => exact Ro.mono (w := w) (fun b hb => ⟨hand_o g _ _ _ _ (hR.roLt b hb) (.inl hb), rfl⟩) hu
 | hand hi =>
  refine ⟨?_, hu.2⟩
  simp only [Gh.hand, if_true, idxOf_some hi]
  exact hu.1
 | deep hi =>
  refine ⟨?_, hu.2⟩
  simp only [Gh.hand, if_true, idxOf_some hi]
  exact hu.1
 | @snap pl d hc hw hn =>
  have h1 : u = g.cv pl.k pl.p pl.q := hu.1
  rw [h1]
  refine ((hR.cellAt hc).1 d rfl).roAt hw fun b hb hlt => ?_
  have hno : ∀ q, idxOf (pl.k, q) srcs = none := fun q => by
   cases hi : idxOf (pl.k, q) srcs with
   | none => rfl
   | some j =>
    have := List.all_eq_true.1 hn _ (List.mem_of_getElem? (idxOf_some hi))
    simp at this
  simp only [Gh.hand, if_neg (Nat.not_le.2 hlt)]
  cases ht : g.o b with
  | lies k' p q =>
   rw [ht] at hb
   have e : k' = pl.k := by simpa [Tag.root?] using hb
   subst e
   cases p with
   | nil => simp [hno]
   | cons x r => simp [hno]
  | box k' =>
   rw [ht] at hb
   have e : k' = pl.k := by simpa [Tag.root?] using hb
   subst e
   simp only
   split
   ·rename_i e
    exfalso
    cases hm : h.mem with
    | false => rw [hC.boxNone hm] at e; cases e
    | true =>
     obtain ⟨kb, r, e1, e2, e3, e4, e5, e6⟩ := hC.boxSome hm
     rw [e1] at e
     simp only [Option.some.injEq] at e
     have hroot : st.root pl.k = some r := e ▸ e2
     have hrow : h.row ≠ [] := fun e0 => by
      rw [e0] at e5
      have : r.row = [] := List.eq_nil_of_length_eq_zero (by simpa using e5)
      simp only [St.cellAt, hroot, this] at hc
      split at hc
      ·simp at hc
      ·simp at hc
     have hl : 0 < h.row.length := List.length_pos_iff.2 hrow
     have := List.all_eq_true.1 hn (kb, 0) (by rw [e4, boxSrc]; exact List.mem_map.2 ⟨0, List.mem_range.2 hl, rfl⟩)
     simp [e] at this
   ·rfl
  | ro => rfl
  | outer => rfl
theorem Rel.giveS (hR : Rel w0 g0 st a w g) (hC : CanHand st h srcs bx kd) {t t' : TS} {u : Value} (hg : GiveS st srcs bx h.k t t') (hu : RepS w g t u) : RepS w (g.hand w.heap.size srcs bx h.k) t' u := by
 cases hg with
 | c hc =>
  cases hu with
  | one _ _ hu => cases hu with
   | c _ _ hu => exact .one _ _ (.c _ _ (hR.giveC hC hc hu))
 | agg hcs =>
  cases hu with
  | one _ _ hu => cases hu with
   | agg _ us hs hv =>
    refine .one _ _ (.agg _ us (by rw [hcs.get.1]; exact hs) fun j c' u hj hu => ?_)
    obtain ⟨c, h1, h2⟩ := hcs.get.2 j c' hj
    exact hR.giveC hC h2 (hv j c u h1 hu)
 | @ptr kb q hb =>
  cases hu with
  | one _ _ hu => cases hu with
   | ptr _ =>
    have := RepT.ptr (w := w) (g := g.hand w.heap.size srcs bx h.k) ⟨h.k, [], q⟩
    have had : (g.hand w.heap.size srcs bx h.k).ad h.k [] = g.ad kb [] := by simp [Gh.hand, hb]
    simp only [had] at this
    exact .one _ _ this
 | @ptrD kb q1 i q j r hi =>
  cases hu with
  | one _ _ hu => cases hu with
   | ptr _ =>
    have := RepT.ptr (w := w) (g := g.hand w.heap.size srcs bx h.k) ⟨h.k, (j, i) :: r, q⟩
    have had : (g.hand w.heap.size srcs bx h.k).ad h.k ((j, i) :: r) = g.ad kb ((q1, i) :: r) := by simp [Gh.hand, idxOf_some hi]
    simp only [had] at this
    exact .one _ _ this
 | cptr ds =>
  cases hu with
  | one _ _ hu => cases hu with
   | cptr _ b off us ho hcell =>
    have hro : ∀ b, g.o b = .ro → (g.hand w.heap.size srcs bx h.k).o b = .ro ∧ w.heap[b]? = w.heap[b]? := fun b hb => ⟨hand_o g _ _ _ _ (hR.roLt b hb) (.inl hb), rfl⟩
    exact .one _ _ (.cptr ds b off us (hro b ho).1 fun j d hj => ⟨(hcell j d hj).1, (hcell j d hj).2.mono hro⟩)
 | fn f =>
  cases hu with
  | fn _ _ us hs hh => exact .fn f [] us hs fun j t u h1 _ => by simp at h1
 | fnC f caps hc =>
  cases hu with
  | fn _ _ us hs hh =>
   exact .fn f caps us hs fun j t u h1 h2 => cap_rep (List.all_eq_true.1 hc t (List.mem_of_getElem? h1)) (fun d v hd => Ro.mono (fun b hb => ⟨hand_o g _ _ _ _ (hR.roLt b hb) (.inl hb), rfl⟩) hd) (hh j t u h1 h2)
 | @fnX f kb q hb =>
  cases hu with
  | fn _ _ us hs hh =>
   refine .fn f _ us (by simpa using hs) fun j t u h1 h2 => ?_
   cases j with
   | succ j => simp at h1
   | zero =>
    simp only [List.getElem?_cons_zero, Option.some.injEq] at h1
    subst h1
    have h3 := hh 0 _ u rfl h2
    cases h3 with
    | ptr _ =>
     have := RepT.ptr (w := w) (g := g.hand w.heap.size srcs bx h.k) ⟨h.k, [], q⟩
     have had : (g.hand w.heap.size srcs bx h.k).ad h.k [] = g.ad kb [] := by simp [Gh.hand, hb]
     simp only [had] at this
     exact this
theorem boxSrc_get {kb n q : Nat} (hq : q < n) : idxOf (kb, q) (boxSrc kb n) = some q := by
 refine idxOf_get ?_ (by simp [boxSrc, hq])
 unfold boxSrc List.Nodup
 rw [List.pairwise_map]
 exact List.nodup_range.imp fun hne e => hne (by simpa using e)
theorem Rel.called2 (hR : Rel w0 g0 st a w g) (hC : CanHand st h srcs bx kd) {rows : List D} {r : Res} {v : Value} (hG : Gives2 w (g.hand w.heap.size srcs bx h.k) h kd rows r v w' g') :
  ∃ g2, Rel w0 g0 (st.handed srcs h.mem rows kd) a w' g2 ∧ (∀ (q : Nat) d, r.row[q]? = some d → Ow w' g2 kd [] q d) ∧
   (∀ t u, okS kd r.row.length t = true → RepS w' g' t u → RepS w' g2 t u) ∧ (∀ k' q j, k' ≠ kd → idxOf (k', q) srcs = some j → g2.cv k' [] q = g'.cv h.k [] j ∧ ∀ d, rows[j]? = some d → Ow w' g2 k' [] q d) := by
 generalize hgc : g.hand w.heap.size srcs bx h.k = gc at hG
 have hK1 : pinK ≠ kd := by have := hC.kdl; simp only [pinK]; omega
 have hB1 : pinB ≠ kd := by have := hC.kdl; simp only [pinB]; omega
 have hkK : kd ≠ h.k := by have := hC.kdl; have := h.big; omega
 have hgro : ∀ b, b < w.heap.size → (g.o b = .ro ∨ g.o b = .outer) → gc.o b = .ro := fun b hb h1 => by subst hgc; exact hand_o g _ _ _ _ hb h1
 have hlt : ∀ b, g.o b ≠ .outer → b < w.heap.size := fun b hb => by
  rcases Nat.lt_or_ge b w.heap.size with h | h
  ·exact h
  ·exact absurd (hR.ks.fresh b h) hb
 generalize hg2 : g.back gc g' w.heap.size w'.heap.size srcs bx h.k kd = g2
 have hkeep : ∀ b, b < w.heap.size → gc.o b = .ro → g2.o b = g.o b ∧ w'.heap[b]? = w.heap[b]? := fun b hb h1 => by
  refine ⟨?_, hG.block b hb h1⟩
  subst hg2
  simp only [Gh.back]
  exact if_pos ⟨hb, isRo_iff.2 h1⟩
 have hnew : ∀ b, b < w'.heap.size → (w.heap.size ≤ b ∨ gc.o b ≠ .ro) → g2.o b = backT srcs bx h.k kd (g'.o b) := fun b hb h1 => by
  subst hg2
  simp only [Gh.back]
  rw [if_neg (fun ⟨h2, h3⟩ => by
   rcases h1 with h1 | h1
   ·omega
   ·exact h1 (isRo_iff.1 h3)), if_pos hb]
 have hro : ∀ b, g.o b = .ro → g2.o b = .ro ∧ w'.heap[b]? = w.heap[b]? := fun b hb => by
  have h1 := hlt b (by rw [hb]; simp)
  obtain ⟨h2, h3⟩ := hkeep b h1 (hgro b h1 (.inl hb))
  exact ⟨h2.trans hb, h3⟩
 have hcv0 : ∀ k' q, k' ≠ kd → idxOf (k', q) srcs = none → g2.cv k' [] q = g.cv k' [] q := fun k' q h1 h2 => by
  subst hg2; simp only [Gh.back, if_neg h1, h2]
 have hcv1 : ∀ k' q1 i r q, k' ≠ kd → idxOf (k', q1) srcs = none → g2.cv k' ((q1, i) :: r) q = g.cv k' ((q1, i) :: r) q := fun k' q1 i r q h1 h2 => by
  subst hg2; simp only [Gh.back, if_neg h1, h2]
 have had0 : ∀ k', k' ≠ kd → g2.ad k' [] = g.ad k' [] := fun k' h1 => by
  subst hg2; simp only [Gh.back, if_neg h1]
 have had1 : ∀ k' q1 i r, k' ≠ kd → idxOf (k', q1) srcs = none → g2.ad k' ((q1, i) :: r) = g.ad k' ((q1, i) :: r) := fun k' q1 i r h1 h2 => by
  subst hg2; simp only [Gh.back, if_neg h1, h2]
 have hcvh : ∀ k' q j, k' ≠ kd → idxOf (k', q) srcs = some j → g2.cv k' [] q = g'.cv h.k [] j := fun k' q j h1 h2 => by
  subst hg2; simp only [Gh.back, if_neg h1, h2]
 have hpin : h.mem = false → ∀ k' q j, k' ≠ kd → idxOf (k', q) srcs = some j → g2.cv k' [] q = g.cv k' [] q := fun hm k' q j h1 h2 => by
  have hK : h.k = pinK := by simp [Hand.k, hm]
  rw [hcvh k' q j h1 h2, hK, hG.pinl hm, ← hgc]
  simp [Gh.hand, hK, idxOf_some h2]
 have hcont : ∀ k' q, srcs.contains (k', q) = false → idxOf (k', q) srcs = none := fun k' q h1 => by
  cases hi : idxOf (k', q) srcs with
  | none => rfl
  | some j =>
   have := List.mem_of_getElem? (idxOf_some hi)
   rw [List.contains_iff_mem.2 this] at h1
   cases h1
 have hA : Agree w g w' g2 (killR srcs h.mem kd) (killP srcs kd) := by
  refine ⟨hro, fun pl hp => ?_, fun pl hp => ?_⟩
  ·obtain ⟨k', p, q⟩ := pl
   simp only [killR, Bool.or_eq_false_iff, Bool.and_eq_false_iff, beq_eq_false_iff_ne] at hp
   obtain ⟨h1, h2⟩ := hp
   cases p with
   | nil =>
    cases hi : idxOf (k', q) srcs with
    | none => exact hcv0 k' q h1 hi
    | some j =>
     rcases h2 with h2 | h2
     ·rw [hcont k' q h2] at hi; cases hi
     ·exact hpin (by simpa using h2) k' q j h1 hi
   | cons x r =>
    obtain ⟨q1, i⟩ := x
    rcases h2 with h2 | h2
    ·exact hcv1 k' q1 i r q h1 (hcont k' q1 h2)
    ·simp at h2
  ·obtain ⟨k', p, q⟩ := pl
   simp only [killP, Bool.or_eq_false_iff, Bool.and_eq_false_iff, beq_eq_false_iff_ne] at hp
   obtain ⟨h1, h2⟩ := hp
   cases p with
   | nil => exact had0 k' h1
   | cons x r =>
    obtain ⟨q1, i⟩ := x
    rcases h2 with h2 | h2
    ·exact had1 k' q1 i r h1 (hcont k' q1 h2)
    ·simp at h2
 have hK : Keeps w0 g0 w' g2 := by
  have hk := hR.ks
  refine ⟨hG.os.trans hk.os, hG.tape.trans hk.tape, hG.output.trans hk.output, Nat.le_trans hk.size hG.size, fun b hb hx => ?_, fun b hb => ?_, fun b hb hx => ?_, ⟨fun q => ?_, ?_⟩, fun b hb => ?_⟩
  ·obtain ⟨h1, h2⟩ := hk.block b hb hx
   have h3 : b < w.heap.size := by have := hk.size; omega
   obtain ⟨h4, h5⟩ := hkeep b h3 (hgro b h3 (by rw [h2]; exact hx))
   exact ⟨h5.trans h1, h4.trans h2⟩
  ·have h1 : ¬ b < w.heap.size := by have := hG.size; omega
   subst hg2
   simp only [Gh.back, if_neg (fun hh : b < w.heap.size ∧ _ => h1 hh.1), if_neg (Nat.not_lt.2 hb)]
  ·by_cases h1 : b < w.heap.size ∧ gc.o b = .ro
   ·rw [(hkeep b h1.1 h1.2).1] at hx
    exact hk.old b h1.1 hx
   ·rw [hnew b hb (by rcases Nat.lt_or_ge b w.heap.size with h2 | h2; exact .inr (fun h3 => h1 ⟨h2, h3⟩); exact .inl h2)] at hx
    exfalso
    revert hx
    cases g'.o b with
    | lies k' p q =>
     simp only [backT]
     split
     ·split <;> split <;> simp
     ·split <;> simp
    | box k' =>
     simp only [backT]
     split
     ·split <;> simp
     ·simp
    | _ => simp [backT]
  ·cases hi : idxOf (pinK, q) srcs with
   | none => rw [hcv0 pinK q hK1 hi]; exact hk.pin.1 q
   | some j =>
    cases hm : h.mem with
    | false => rw [hpin hm pinK q j hK1 hi]; exact hk.pin.1 q
    | true =>
     exfalso
     obtain ⟨kb, r, e1, e2, e3, e4, e5, e6⟩ := hC.boxSome hm
     have := idxOf_some hi
     rw [e4, boxSrc, List.getElem?_map, Option.map_eq_some_iff] at this
     obtain ⟨x, _, hx⟩ := this
     simp only [Prod.mk.injEq] at hx
     have hm1 := (hR.rt.mem kb r e2 e3).1
     rw [hx.1] at hm1
     exact hk.nobox _ hm1
  ·rw [had0 pinB hB1]; exact hk.pin.2
  ·by_cases hb2 : b < w'.heap.size
   ·by_cases h1 : b < w.heap.size ∧ gc.o b = .ro
    ·rw [(hkeep b h1.1 h1.2).1] at hb
     exact hk.nobox b hb
    ·rw [hnew b hb2 (by rcases Nat.lt_or_ge b w.heap.size with h2 | h2; exact .inr (fun h3 => h1 ⟨h2, h3⟩); exact .inl h2)] at hb
     revert hb
     cases g'.o b with
     | lies k' p q =>
      simp only [backT]
      split
      ·split <;> split <;> simp
      ·split <;> simp
     | box k' =>
      simp only [backT]
      split
      ·cases hbx : bx with
       | none => simp
       | some kb =>
        intro hb
        simp only [Tag.box.injEq] at hb
        cases hm : h.mem with
        | false => rw [hC.boxNone hm] at hbx; cases hbx
        | true =>
         obtain ⟨kb2, r, e1, e2, e3, e4, e5, e6⟩ := hC.boxSome hm
         rw [e1] at hbx
         simp only [Option.some.injEq] at hbx
         have hm1 := (hR.rt.mem _ r e2 e3).1
         rw [hbx, hb] at hm1
         exact hk.nobox _ hm1
      ·simp
     | _ => simp [backT]
   ·have h1 : ¬ b < w.heap.size := by have := hG.size; omega
    subst hg2
    simp only [Gh.back, if_neg (fun hh : b < w.heap.size ∧ _ => h1 hh.1), if_neg hb2] at hb
    cases hb
 have hback : ∀ k' q j d, k' ≠ kd → idxOf (k', q) srcs = some j → rows[j]? = some d → Ow w' g2 k' [] q d := fun k' q j d h1 h2 h3 => by
  have hs := idxOf_some h2
  have hnd := hC.nodup
  refine Ow.move (hG.hrow j d h3) ⟨hcvh k' q j h1 h2, fun i r q' => ?_, fun i r => ?_, fun b hb => ⟨?_, rfl⟩, fun b i r q' hb => ⟨?_, rfl⟩⟩
  ·subst hg2; simp only [Gh.back, if_neg h1, List.nil_append, h2]
  ·subst hg2; simp only [Gh.back, if_neg h1, List.nil_append, h2]
  ·obtain ⟨o1, o2⟩ := hG.old b (.inr (by rw [hb]; rfl))
   rw [hnew b o1 o2, hb]
   simp only [backT, if_true, hs]
  ·obtain ⟨o1, o2⟩ := hG.old b (.inr (by rw [hb]; rfl))
   rw [hnew b o1 o2, hb]
   simp only [backT, List.nil_append, if_true, hs]
 have hsame : ∀ k' q d, k' ≠ kd → idxOf (k', q) srcs = none → Ow w g k' [] q d → Ow w' g2 k' [] q d := fun k' q d h1 h2 h3 => by
  have hb0 : ∀ b p q', g.o b = .lies k' p q' → (p = [] ∧ q' = q ∨ ∃ i r, p = (q, i) :: r) → g2.o b = g.o b ∧ w'.heap[b]? = w.heap[b]? := fun b p q' hb hp => by
   have hl := hlt b (by rw [hb]; simp)
   refine hkeep b hl ?_
   subst hgc
   simp only [Gh.hand, if_neg (Nat.not_le.2 hl), hb]
   rcases hp with ⟨rfl, rfl⟩ | ⟨i, r, rfl⟩
   ·simp only [h2]
   ·simp only [h2]
  refine Ow.move h3 ⟨hcv0 k' q h1 h2, fun i r q' => hcv1 k' q i r q' h1 h2, fun i r => had1 k' q i r h1 h2, fun b hb => ?_, fun b i r q' hb => ?_⟩
  ·have := hb0 b [] q hb (.inl ⟨rfl, rfl⟩)
   exact ⟨this.1.trans hb, this.2⟩
  ·have := hb0 b _ q' hb (.inr ⟨i, r, rfl⟩)
   exact ⟨this.1.trans hb, this.2⟩
 refine ⟨g2, hR.change hA rfl ⟨fun k' r' hk' q c hq => ?_, fun k' r' hk' hm => ?_⟩ hK, fun q d hq => ?_, fun t u ht hu => ?_, fun k' q j h1 h2 => ⟨hcvh k' q j h1 h2, fun d h3 => hback k' q j d h1 h2 h3⟩⟩
 ·rw [root_handed] at hk'
  split at hk'
  ·cases hk'
  ·rename_i hne
   rw [Option.map_eq_some_iff] at hk'
   obtain ⟨r1, h1, rfl⟩ := hk'
   obtain ⟨c1, h2, rfl⟩ := handRow_get srcs rows _ k' r1.row 0 q c hq
   rw [Nat.zero_add]
   cases hi : idxOf (k', q) srcs with
   | some j =>
    simp only
    cases hd : rows[j]? with
    | none => trivial
    | some d => exact hback k' q j d hne hi hd
   | none =>
    simp only
    have hc := hR.rt.cell k' r1 h1 q c1 h2
    have hcv := hcv0 k' q hne hi
    cases c1 with
    | ro d => show Ro w' g2.o d (g2.cv k' [] q); rw [hcv]; exact Ro.mono hro hc
    | own d => exact hsame k' q d hne hi hc
    | ref pl =>
     have h3 : g.cv k' [] q = g.cv pl.k pl.p pl.q ∧ (g.cv k' [] q).oneCell' = true := hc
     simp only [C.kill]
     cases hp : killR srcs h.mem kd pl with
     | true => trivial
     | false =>
      show g2.cv k' [] q = g2.cv pl.k pl.p pl.q ∧ (g2.cv k' [] q).oneCell' = true
      rw [hcv, hA.cv pl hp]
      exact h3
    | dead => trivial
 ·rw [root_handed] at hk'
  split at hk'
  ·cases hk'
  ·rename_i hne
   rw [Option.map_eq_some_iff] at hk'
   obtain ⟨r1, h1, rfl⟩ := hk'
   obtain ⟨m1, ⟨cs, e, m2⟩, m3⟩ := hR.rt.mem k' r1 h1 hm
   have hl := lt_of_heap m2
   rw [had0 k' hne]
   by_cases hbx : bx = some k'
   ·have hm' : h.mem = true := by
     cases hmm : h.mem with
     | true => rfl
     | false => rw [hC.boxNone hmm] at hbx; cases hbx
    obtain ⟨kb, r2, e1, e2, e3, e4, e5, e6⟩ := hC.boxSome hm'
    rw [e1] at hbx
    simp only [Option.some.injEq] at hbx
    subst hbx
    obtain ⟨p1, p2, ⟨cs2, ee2, p3⟩, p4⟩ := hG.pinb hm'
    have hKB : h.k = pinB := by simp [Hand.k, hm']
    have hcad : gc.ad pinB [] = g.ad kb [] := by subst hgc; simp [Gh.hand, hKB, e1]
    rw [p1, hcad] at p2 p3 p4
    have hgo : gc.o (g.ad kb []).1 ≠ .ro := by
     subst hgc
     simp only [Gh.hand, if_neg (Nat.not_le.2 hl), m1, e1, if_true]
     simp
    refine ⟨?_, ⟨cs2, ee2, p3⟩, fun q hq => ?_⟩
    ·rw [hnew _ (by have := hG.size; omega) (.inr hgo), p2]
     simp [backT, hKB, e1]
    ·rw [h1] at e2
     simp only [Option.some.injEq] at e2
     subst e2
     simp only [handRow_len] at hq
     rw [p4 q (by rw [hG.hlen, ← e5]; exact hq)]
     rw [hcvh kb q q hne (by rw [e4]; exact boxSrc_get (by omega)), hKB]
   ·have hgo : gc.o (g.ad k' []).1 = .ro := by
     subst hgc
     simp only [Gh.hand, if_neg (Nat.not_le.2 hl), m1, if_neg hbx]
    obtain ⟨k1, k2⟩ := hkeep _ hl hgo
    refine ⟨k1.trans m1, ⟨cs, e, k2.trans m2⟩, fun q hq => ?_⟩
    simp only [handRow_len] at hq
    rw [cellAddr, cell_eq k2]
    have h5 := m3 q hq
    rw [cellAddr] at h5
    rw [h5]
    cases hi : idxOf (k', q) srcs with
    | none => rw [hcv0 k' q hne hi]
    | some j =>
     cases hmm : h.mem with
     | false => rw [hpin hmm k' q j hne hi]
     | true =>
      exfalso
      obtain ⟨kb, r2, e1, e2, e3, e4, e5, e6⟩ := hC.boxSome hmm
      have := idxOf_some hi
      rw [e4, boxSrc, List.getElem?_map, Option.map_eq_some_iff] at this
      obtain ⟨x, _, hx⟩ := this
      simp only [Prod.mk.injEq] at hx
      exact hbx (by rw [e1, hx.1])
 ·refine Ow.move (hG.row q d hq) ⟨?_, fun i r q' => ?_, fun i r => ?_, fun b hb => ⟨?_, rfl⟩, fun b i r q' hb => ⟨?_, rfl⟩⟩
  ·subst hg2; simp only [Gh.back, if_true]
  ·subst hg2; simp only [Gh.back, if_true]
  ·subst hg2; simp only [Gh.back, if_true]
  ·obtain ⟨o1, o2⟩ := hG.old b (.inl (by rw [hb]; rfl))
   rw [hnew b o1 o2, hb]
   simp [backT, hkK]
  ·obtain ⟨o1, o2⟩ := hG.old b (.inl (by rw [hb]; rfl))
   rw [hnew b o1 o2, hb]
   simp [backT, hkK]
 ·have hcvk : ∀ p q, g2.cv kd p q = g'.cv kd p q := fun p q => by subst hg2; simp only [Gh.back, if_true]
  have hCC : ∀ c u, okC kd r.row.length c = true → RepV w' g' c u → RepV w' g2 c u := fun c u h1 h2 => by
   cases c with
   | ro d =>
    cases d with
    | v x =>
     have h3 : Ro w' g'.o (.v x) u := h2
     cases h3 with
     | v _ hp => exact Ro.v _ hp
    | _ => cases h1
   | own d => exact h2
   | ref pl =>
    simp only [okC, Bool.and_eq_true, beq_iff_eq] at h1
    obtain ⟨⟨h3, _⟩, _⟩ := h1
    show u = g2.cv pl.k pl.p pl.q ∧ u.oneCell' = true
    rw [h3, hcvk, ← h3]
    exact h2
   | dead => trivial
  have hT : ∀ t u, okV kd r.row.length t = true → RepT w' g' t u → RepT w' g2 t u := fun t u h1 h2 => by
   cases h2 with
   | c c u hv => exact .c c u (hCC c u h1 hv)
   | agg cs us hs hv => exact .agg cs us hs fun j c u h3 h4 => hCC c u (List.all_eq_true.1 h1 c (List.mem_of_getElem? h3)) (hv j c u h3 h4)
   | ptr pl => cases h1
   | tab pls b off hro hcell => cases h1
   | ptab pls b off hro hcell => cases h1
   | cut pl sz lo hi b off n c hc h1' h2 h3 => cases h1
   | cptr ds b off us ho hcell => cases h1
   | dead u => exact .dead u
  cases hu with
  | one t u hh => exact .one t _ (hT t _ ht hh)
  | tup ts us hs hh => exact .tup ts us hs fun j t u h3 h4 => hT t u (List.all_eq_true.1 ht t (List.mem_of_getElem? h3)) (hh j t u h3 h4)
  | fn f caps us hs hh => cases ht
end
end Go.Proofs.Ytcmoifejjodgcaa.T
namespace Go.Proofs.Ytcmoifejjodgcaa.T
open Go
set_option linter.unusedVariables false
set_option linter.unusedSimpArgs false
abbrev RP2 (rows : List D) (t : TS) : List D → Res → Prop := fun rs r => rs = rows ∧ r = ⟨[], fun _ => t⟩
section
variable {P : Program} {w0 : World} {g0 : Gh} {st : St}
theorem CanHand.list {srcs : List (Nat × Nat)} {row : List D} {kd : Nat} (hc : contents st srcs = some row) (hn : srcs.Nodup := by decide) (hk : (srcs.all fun s => s.1 != kd) = true := by decide) (hkd : kd < 1000000 := by decide) :
  CanHand st ⟨false, row⟩ srcs none kd := ⟨hn, hc, hkd, fun s hs => by simpa using List.all_eq_true.1 hk s hs, by simp⟩
theorem contents_box {kb : Nat} {m : Bool} : ∀ {row0 : List D} (row : List D) (q0 : Nat), st.root kb = some ⟨m, row0.map C.own⟩ → (∀ (q : Nat) d, row[q]? = some d → row0[q0 + q]? = some d) → contents st ((List.range' q0 row.length).map fun q => (kb, q)) = some row
 | row0, [], q0, h, hh => rfl
 | row0, d :: row, q0, h, hh => by
  have h1 : st.cellAt ⟨kb, [], q0⟩ = some (.own d) := by
   have := hh 0 d rfl
   simp only [St.cellAt, h, List.getElem?_map]
   rw [show q0 + 0 = q0 from rfl] at this
   rw [this]
   rfl
  have h2 := contents_box (row0 := row0) row (q0 + 1) h fun q d' hq => by
   have := hh (q + 1) d' (by simpa using hq)
   rw [show q0 + 1 + q = q0 + (q + 1) by omega]
   exact this
  simp only [List.length_cons, List.range'_succ, List.map_cons, contents, h1, h2]
theorem CanHand.bx {kb : Nat} {row : List D} {kd : Nat} (hr : st.root kb = some ⟨true, row.map C.own⟩) (hk : kb ≠ kd := by decide) (hkd : kd < 1000000 := by decide) :
  CanHand st ⟨true, row⟩ (boxSrc kb row.length) (some kb) kd := by
 refine ⟨?_, ?_, hkd, fun s hs => ?_, ?_⟩
 ·unfold boxSrc List.Nodup
  rw [List.pairwise_map]
  exact List.nodup_range.imp fun hne e => hne (by simpa using e)
 ·have := contents_box (row0 := row) row 0 hr (fun q d hq => by simpa using hq)
  rw [← List.range_eq_range'] at this
  exact this
 ·unfold boxSrc at hs
  obtain ⟨q, _, rfl⟩ := List.mem_map.1 hs
  exact hk
 ·exact ⟨kb, _, rfl, hr, rfl, rfl, by simp, hk⟩
theorem TL.call2 {ops : Array Oper} {o : Oper} {rest : List Oper} {st' : St} {Q : St → Prop} (hg : yes ops st o) {f : FuncId} {cx : Operand} {args : List Operand} {tys : Array TypeId} {fn : Func}
  (ho : o.op = .call { callee := .value cx, args := args.toArray, argTypes := tys }) (hcx : T.opd 0 st cx = some (.fn f [])) (hf : P.funcs[f]? = some fn) (hb : fn.body.isNone = false)
  (hn : (fn.name == "runtime.NumGoroutine") = false) {ts ts' : List TS} (hx : opds st args = some ts) {h : Hand} {rows : List D} {t : TS} {x : Value} (hc : Fun2 P f h ts' (RP2 rows t)) {srcs : List (Nat × Nat)} {bx : Option Nat}
  (hC : CanHand st h srcs bx 999999) (hs : GivesAll st srcs bx h.k ts ts') (hp : freeS t = some x)
  (hpt : (st.handed srcs h.mem rows 999999).put o.dst t = st') (hq : TL P w0 g0 ops rest st' Q) : TL P w0 g0 ops (o :: rest) st Q := fun a w g hR Q' hQ => wpList_step fun K hK => by
 rw [if_pos (yes_of hg hR)]
 have h1 := hR.opds hx
 have h2 := hs.get
 have hcall := hc w (g.hand w.heap.size srcs bx h.k) (args.map a.eval).toArray 999999 (by decide) (hR.handed hC) (by simp [h1.1, h2.1]) (fun i t' u hi hu => by
  obtain ⟨t, h3, h4⟩ := h2.2 i t' hi
  exact hR.giveS hC h4 (h1.2 i t u h3 (by simpa using hu)))
 unfold Oper.wp
 rw [run_enter hR ho hcx hf hb hn w]
 refine hcall.mono fun e w' ⟨v, row', r, g', he, ⟨hr1, hr2⟩, hG⟩ => ?_
 subst he
 subst hr1
 have h5 := hG.val
 rw [hr2] at h5
 have h6 := (freeS_inv hp).1 h5
 subst h6
 obtain ⟨g2, hR2, _⟩ := hR.called2 hC hG
 exact hK _ _ (hq _ _ _ (hpt ▸ hR2.put ((freeS_inv hp).2 rfl) o.dst) Q' hQ)
end
section
variable {α : Type} {a b : List α} {k : Nat}
end
def Gh.take (g : Gh) (k1 q1 L : Nat) : Gh where
 o b := match g.o b with
  | .lies k' p q => if k' = k1 then (match p with
    | [] => if q = q1 then .lies L [] 0 else .lies k' [] q
    | (x, i) :: r => if x = q1 then .lies L ((0, i) :: r) q else .lies k' ((x, i) :: r) q)
   else if k' = L then .ro else .lies k' p q
  | .box k' => if k' = L then .ro else .box k'
  | t => t
 ad k' p := if k' = L then (match p with | [] => (0, 0) | (_, i) :: r => g.ad k1 ((q1, i) :: r)) else g.ad k' p
 cv k' p q := if k' = L then (match p with | [] => g.cv k1 [] q1 | (_, i) :: r => g.cv k1 ((q1, i) :: r) q) else g.cv k' p q
def St.take (st : St) (k1 q1 L : Nat) : Option St :=
 match st.root k1 with
 | some r => match r.row[q1]? with
  | some (.own (.sl sz ds)) => some ((st.fresh L ⟨false, [.own (.sl sz ds)]⟩).setRoot k1 ⟨r.mem, (r.row.map (C.kill fun pl => pl.k == L)).set q1 (.ref ⟨L, [], 0⟩)⟩)
  | _ => none
 | none => none
section
variable {P : Program} {w0 : World} {g0 : Gh} {st : St} {a : Act} {w : World} {g : Gh}
theorem Rel.take (hR : Rel w0 g0 st a w g) {k1 q1 L : Nat} {st' : St} (ht : st.take k1 q1 L = some st') (hne : k1 ≠ L) (hL : L < 1000000) : ∃ g1, Rel w0 g0 st' a w g1 := by
 unfold St.take at ht
 split at ht
 ·rename_i r hk
  split at ht
  ·rename_i sz ds hq
   simp only [Option.some.injEq] at ht
   subst ht
   have hK1 : pinK ≠ L := by simp only [pinK]; omega
   have hB1 : pinB ≠ L := by simp only [pinB]; omega
   refine ⟨g.take k1 q1 L, ?_⟩
   have hro : ∀ b, g.o b = .ro → (g.take k1 q1 L).o b = .ro ∧ w.heap[b]? = w.heap[b]? := fun b hb => ⟨by simp [Gh.take, hb], rfl⟩
   have hcv : ∀ k' p q, k' ≠ L → (g.take k1 q1 L).cv k' p q = g.cv k' p q := fun k' p q h => by simp only [Gh.take, if_neg h]
   have had : ∀ k' p, k' ≠ L → (g.take k1 q1 L).ad k' p = g.ad k' p := fun k' p h => by simp only [Gh.take, if_neg h]
   have hA : Agree w g w (g.take k1 q1 L) (fun pl => pl.k == L) (fun pl => pl.k == L) := ⟨hro, fun pl hp => hcv _ _ _ (by simpa using hp), fun pl hp => had _ _ (by simpa using hp)⟩
   have hOw : ∀ k' q d, k' ≠ L → (k' = k1 → q ≠ q1) → Ow w g k' [] q d → Ow w (g.take k1 q1 L) k' [] q d := fun k' q d h1 h2 h3 => by
    refine Ow.move h3 ⟨hcv _ _ _ h1, fun i r q' => hcv _ _ _ h1, fun i r => had _ _ h1, fun b hb => ⟨?_, rfl⟩, fun b i r q' hb => ⟨?_, rfl⟩⟩
    ·simp only [Gh.take, hb]
     by_cases e : k' = k1
     ·rw [if_pos e, if_neg (h2 e)]
     ·rw [if_neg e, if_neg h1]
    ·simp only [Gh.take, hb, List.nil_append]
     by_cases e : k' = k1
     ·rw [if_pos e, if_neg (h2 e)]
     ·rw [if_neg e, if_neg h1]
   have hcell : ∀ k' q c, k' ≠ L → (k' = k1 → q ≠ q1) → RepC w g k' q c → RepC w (g.take k1 q1 L) k' q (c.kill fun pl => pl.k == L) := fun k' q c h1 h2 h3 => by
    cases c with
    | ro d => show Ro w _ d _; rw [hcv _ _ _ h1]; exact Ro.mono hro h3
    | own d => exact hOw k' q d h1 h2 h3
    | ref pl =>
     have h4 : g.cv k' [] q = g.cv pl.k pl.p pl.q ∧ (g.cv k' [] q).oneCell' = true := h3
     simp only [C.kill]
     by_cases e : pl.k = L
     ·rw [if_pos (by simpa using e)]; trivial
     ·rw [if_neg (by simpa using e)]
      show (g.take k1 q1 L).cv k' [] q = (g.take k1 q1 L).cv pl.k pl.p pl.q ∧ ((g.take k1 q1 L).cv k' [] q).oneCell' = true
      rw [hcv _ _ _ h1, hcv _ _ _ e]
      exact h4
    | dead => trivial
   have hO : Ow w g k1 [] q1 (.sl sz ds) := hR.rt.cell k1 r hk q1 _ hq
   have hone : (g.cv k1 [] q1).oneCell' = true := by
    cases hO with
    | nil _ _ _ he => rw [he]; rfl
    | sl _ _ _ _ _ _ _ _ _ _ he => rw [he]; rfl
   have hroot : ∀ k' r', ((st.fresh L ⟨false, [.own (.sl sz ds)]⟩).setRoot k1 ⟨r.mem, (r.row.map (C.kill fun pl => pl.k == L)).set q1 (.ref ⟨L, [], 0⟩)⟩).root k' = some r' →
     (k' = k1 ∧ r' = ⟨r.mem, (r.row.map (C.kill fun pl => pl.k == L)).set q1 (.ref ⟨L, [], 0⟩)⟩) ∨ (k' = L ∧ r' = ⟨false, [.own (.sl sz ds)]⟩) ∨ (k' ≠ k1 ∧ k' ≠ L ∧ ∃ r1, st.root k' = some r1 ∧ r' = r1.kill fun pl => pl.k == L) := fun k' r' h => by
    rw [St.root_setRoot] at h
    split at h
    ·rename_i e
     simp only [Option.some.injEq] at h
     exact .inl ⟨e, h.symm⟩
    ·rename_i e
     rw [St.fresh, St.root_setRoot] at h
     split at h
     ·rename_i e2
      simp only [Option.some.injEq] at h
      exact .inr (.inl ⟨e2, h.symm⟩)
     ·rename_i e2
      rw [St.root_kill, Option.map_eq_some_iff] at h
      obtain ⟨r1, h1, h2⟩ := h
      exact .inr (.inr ⟨e, e2, r1, h1, h2.symm⟩)
   refine hR.change hA rfl ⟨fun k' r' hk' q c hc => ?_, fun k' r' hk' hm => ?_⟩ ?_
   ·rcases hroot k' r' hk' with ⟨rfl, rfl⟩ | ⟨rfl, rfl⟩ | ⟨h1, h2, r1, h3, rfl⟩
    ·rw [List.getElem?_set] at hc
     by_cases e : q1 = q
     ·subst e
      rw [if_pos rfl] at hc
      split at hc
      ·simp only [Option.some.injEq] at hc
       subst hc
       show (g.take k' q1 L).cv k' [] q1 = (g.take k' q1 L).cv L [] 0 ∧ ((g.take k' q1 L).cv k' [] q1).oneCell' = true
       rw [hcv _ _ _ hne]
       exact ⟨by simp [Gh.take], hone⟩
      ·cases hc
     ·rw [if_neg e, List.getElem?_map, Option.map_eq_some_iff] at hc
      obtain ⟨c1, h4, rfl⟩ := hc
      exact hcell k' q c1 hne (fun _ => fun h => e h.symm) (hR.rt.cell k' r hk q c1 h4)
    ·cases q with
     | succ q => simp at hc
     | zero =>
      simp only [List.getElem?_cons_zero, Option.some.injEq] at hc
      subst hc
      refine Ow.move hO ⟨by simp [Gh.take], fun i r q' => by simp [Gh.take], fun i r => by simp [Gh.take], fun b hb => ⟨by simp [Gh.take, hb], rfl⟩, fun b i r q' hb => ⟨by simp [Gh.take, hb], rfl⟩⟩
    ·simp only [Rt.kill, List.getElem?_map, Option.map_eq_some_iff] at hc
     obtain ⟨c1, h4, rfl⟩ := hc
     exact hcell k' q c1 h2 (fun e => absurd e h1) (hR.rt.cell k' r1 h3 q c1 h4)
   ·have hmem : ∀ k' r1, k' ≠ L → st.root k' = some r1 → r1.mem = true → (g.take k1 q1 L).o ((g.take k1 q1 L).ad k' []).1 = .box k' ∧ (∃ cs e, w.heap[((g.take k1 q1 L).ad k' []).1]? = some (.cells cs e (0, 0))) ∧
      ∀ q, q < r1.row.length → w.cell? (cellAddr ((g.take k1 q1 L).ad k' []) q) = some ((g.take k1 q1 L).cv k' [] q) := fun k' r1 h1 h2 h3 => by
     obtain ⟨m1, m2, m3⟩ := hR.rt.mem k' r1 h2 h3
     rw [had _ _ h1]
     refine ⟨by simp only [Gh.take, m1, if_neg h1], m2, fun q hq => ?_⟩
     rw [hcv _ _ _ h1]
     exact m3 q hq
    rcases hroot k' r' hk' with ⟨rfl, rfl⟩ | ⟨rfl, rfl⟩ | ⟨h1, h2, r1, h3, rfl⟩
    ·obtain ⟨m1, m2, m3⟩ := hmem k' r hne hk hm
     exact ⟨m1, m2, fun q hq => m3 q (by simpa using hq)⟩
    ·cases hm
    ·obtain ⟨m1, m2, m3⟩ := hmem k' r1 h2 h3 hm
     exact ⟨m1, m2, fun q hq => m3 q (by simpa [Rt.kill] using hq)⟩
   ·have hk0 := hR.ks
    refine ⟨hk0.os, hk0.tape, hk0.output, hk0.size, fun b hb hx => ?_, fun b hb => ?_, fun b hb hx => ?_, ⟨fun q => ?_, ?_⟩, fun b hb => ?_⟩
    ·obtain ⟨h1, h2⟩ := hk0.block b hb hx
     refine ⟨h1, ?_⟩
     rcases hx with hx | hx <;> simp [Gh.take, h2, hx]
    ·simp [Gh.take, hk0.fresh b hb]
    ·refine hk0.old b hb ?_
     revert hx
     simp only [Gh.take]
     split
     ·split
      ·split <;> split <;> simp
      ·split <;> simp
     ·split <;> simp
     ·exact fun h => h
    ·rw [hcv _ _ _ hK1]; exact hk0.pin.1 q
    ·rw [had _ _ hB1]; exact hk0.pin.2
    ·revert hb
     simp only [Gh.take]
     split
     ·split
      ·split <;> split <;> simp
      ·split <;> simp
     ·rename_i k' hb0
      split
      ·simp
      ·intro hb
       simp only [Tag.box.injEq] at hb
       subst hb
       exact hk0.nobox b hb0
     ·rename_i h1 h2
      intro hb
      exact hk0.nobox b hb
  ·cases ht
 ·cases ht
theorem TC.take {c : Code} {st' : St} {Q : Exit → St → Prop} (k1 q1 L : Nat) (ht : st.take k1 q1 L = some st') (hc : TC P w0 g0 c st' Q) (hne : k1 ≠ L := by decide) (hL : L < 1000000 := by decide) : TC P w0 g0 c st Q := fun a w g hR => by
 obtain ⟨g1, h1⟩ := hR.take ht hne hL
 exact hc a w g1 h1
end
section
variable {P : Program} {w0 : World} {g0 : Gh} {st : St}
theorem refsD_rep {w : World} {g : Gh} {k : Nat} (hcv : ∀ q, g.cv k [] q = .slice none 0 0) : ∀ (row : List D) (j : Nat), row.all zeroOk = true → RC w g (refsD k j row) (row.map zeroV)
 | [], j, _ => ⟨rfl, fun i c u hc => by simp [refsD] at hc⟩
 | d :: row, j, h => by
  simp only [List.all_cons, Bool.and_eq_true] at h
  have ih := refsD_rep (w := w) hcv row (nextD j d) h.2
  refine ⟨by simp [refsD, ih.1], fun i c u hc hu => ?_⟩
  cases i with
  | succ i => exact ih.2 i c u (by simpa [refsD] using hc) (by simpa using hu)
  | zero =>
   simp only [refsD, List.getElem?_cons_zero, List.map_cons, Option.some.injEq] at hc hu
   subst hc; subst hu
   cases d with
   | v x => exact Ro.v x h.1
   | sl sz ds =>
    cases ds with
    | nil => exact ⟨(hcv j).symm, rfl⟩
    | cons _ _ => cases h.1
   | _ => cases h.1
theorem OpT.buildN {o : Oper} {Q : St → Prop} {t : TypeId} {parts : List (Nat × Operand)} (ho : o.op = .build t parts.toArray) {k : Nat} (hd : o.dst = some k) {fs : Array Field} (hu : P.underlying t = some (.struct fs))
  {it : TypeInfo} (hi : P.info? t = some it) {z : Value} (hz : it.zero = some z) {row : List D} (hrow : zeroD P 6 t = some row) (hv : z.cells.toList = row.map zeroV) (hok : row.all zeroOk = true)
  {place : List (Nat × Nat)} (hpl : fs.toList.mapM (fun f => (P.info? f.type).map fun i => (f.offset, i.size)) = some place) {row' : List D} (hr : row = row')
  {pc : List (Nat × List C)} (hp : partsC (st.fresh k ⟨false, (row'.filter isSl).map C.own⟩) parts = some pc) {cs : List C} (hf : fillC place (refsD k 0 row') pc = some cs)
  (hq : Q ((st.fresh k ⟨false, (row'.filter isSl).map C.own⟩).put (some k) (.one (.agg cs)))) (hkp : k < 1000000 := by decide) : OpT P w0 g0 o st Q := fun a w g hR K Q' hK => by
 subst hr
 have hK1 : pinK ≠ k := by simp only [pinK]; omega
 let g' : Gh := { g with cv := fun k' => if k' = k then fun _ _ => .slice none 0 0 else g.cv k' }
 have hS : Same w g w g' (· ≠ k) := ⟨fun b hb => ⟨hb, rfl⟩, fun _ _ b _ => ⟨rfl, rfl⟩, fun _ _ => rfl, fun k' hk' => if_neg hk'⟩
 have hR' : Rel w0 g0 (st.fresh k ⟨false, (row.filter isSl).map C.own⟩) a w g' := by
  refine hR.grow hS ⟨hR.ks.os, hR.ks.tape, hR.ks.output, hR.ks.size, hR.ks.block, hR.ks.fresh, hR.ks.old, ⟨fun q => (by simp only [g', if_neg hK1]; exact hR.ks.pin.1 q), hR.ks.pin.2⟩, hR.ks.nobox⟩ (fun q c hq => ?_) (fun hm => by cases hm)
  rw [List.getElem?_map, Option.map_eq_some_iff] at hq
  obtain ⟨d, hq, rfl⟩ := hq
  have hm := List.mem_filter.1 (List.mem_of_getElem? hq)
  have hk := List.all_eq_true.1 hok d hm.1
  cases d with
  | sl sz ds =>
   cases ds with
   | nil => exact Ow.nil [] q sz (by simp [g'])
   | cons _ _ => cases hk
  | v x => cases hm.2
  | _ => cases hk
 have hz0 : RC w g' (refsD k 0 row) z.cells.toList := by
  rw [hv]
  exact refsD_rep (fun q => by simp [g']) row 0 hok
 obtain ⟨us, e1, e2⟩ := fillC_rep hR' hp hf hz0
 have hb : P.built t (parts.map fun p => (p.1, a.eval p.2)) = some us := by
  unfold Program.built
  simp only [hi, hu, hz, hpl]
  exact e1
 have hrun := run_build (P := P) w t (parts.toArray.map fun p => (p.1, a.eval p.2)) us (by simpa using hb)
 simp only [List.map_toArray] at hrun
 have hrun2 : (execOp a.eval o).run P w = .ok (.value (.agg us)) w := by simp [execOp, ho, hrun]
 unfold Oper.wp
 rw [hrun2]
 refine hK _ _ _ g' hq ?_
 rw [hd]
 exact hR'.put (.one _ _ (.agg _ us (by simpa using e2.1) fun j c u hc hu => e2.2 j c u hc (by simpa using hu))) (some k)
theorem OpT.appendOE {o : Oper} {Q : St → Prop} {x y : Operand} {t t2 e e2 : TypeId} (ho : o.op = .call { callee := .builtin .append, args := #[x, y], argTypes := #[t, t2] }) {k : Nat} (hd : o.dst = some k) {k1 k2 : Nat} (hx : T.opd 0 st x = some (.one (.c (.ref ⟨k1, [], 0⟩))))
  (hy : T.opd 0 st y = some (.one (.c (.ref ⟨k2, [], 0⟩)))) {sz : Nat} {ds ns : List D} (h1 : st.root k1 = some ⟨false, [.own (.sl sz ds)]⟩) (h2 : st.root k2 = some ⟨false, [.own (.sl sz ns)]⟩) (hne : k2 ≠ k1)
  (hnh : ∀ d ∈ ns, ∀ c ∈ d.row, c ≠ .hole) (ht : P.underlying t = some (.slice e)) (ht2 : P.underlying t2 = some (.slice e2)) {i : TypeInfo} {z : Value} (hi : P.info? e = some i) (hz : i.zero = some z)
  (hsz : i.size = sz) (hby : Nat.ble i.bytes 1048576 = true) (hzs : z.cells.size = sz) (hlen : ds.length + ns.length ≤ 134217728)
  (hq : Q ((st.renew [k, k1, k2] k ⟨false, [.own (.sl sz (ds ++ ns))]⟩).put (some k) (.one (.c (.ref ⟨k, [], 0⟩))))) (hkp : k < 1000000 := by decide) : OpT P w0 g0 o st Q := by
 have hb := Nat.le_of_ble_eq_true hby
 refine OpT.append ho hd hx hy h1 h2 hne hnh ht ht2 hi hz hsz rfl hzs (by simp only [most]; omega) ?_ hq hkp
 calc (ds.length + ns.length) * i.bytes ≤ 134217728 * i.bytes := Nat.mul_le_mul_right _ hlen
  _ ≤ 140737488355328 := by omega
end
end Go.Proofs.Ytcmoifejjodgcaa.T
namespace Go.Proofs.Ytcmoifejjodgcaa.T
open Go
set_option linter.unusedVariables false
set_option linter.unusedSimpArgs false
abbrev S (s : ByteArray) : TS := V (.string s)
section
variable {P : Program} {w0 : World} {g0 : Gh} {st : St} {o : Oper} {ty ty' : TypeId} {x y z : Operand}
theorem Val.addS {a b : ByteArray} (ho : o.op = .binOp .add ty x y ty') (hx : T.opd 0 st x = some (S a)) (hy : T.opd 0 st y = some (S b)) (hl : a.size + b.size ≤ 9223372036854775807) : Val P w0 g0 o st (S (a ++ b)) :=
 Val.bin ho hx hy rfl (fun w => by
  have hm : IntKind.i64.max = 9223372036854775807 := by decide
  have : ¬ (((a.size + b.size : Nat) : Int) > IntKind.i64.max) := by rw [hm]; omega
  rw [binOp_string_add]
  simp only [Op.stringOp, if_neg this]
  rfl) rfl
theorem Val.rem {k : IntKind} {a b : Int} (ho : o.op = .binOp .rem ty x y ty') (hx : T.opd 0 st x = some (V (.int k a))) (hy : T.opd 0 st y = some (V (.int k b))) (hb : b ≠ 0) : Val P w0 g0 o st (V (.int k (a.tmod b))) :=
 Val.bin ho hx hy rfl (fun w => by rw [binOp_rem]; simp [Op.intDiv, hb]) rfl
theorem Val.quo {a b : Int} (ho : o.op = .binOp .quo ty x y ty') (hx : T.opd 0 st x = some (I a)) (hy : T.opd 0 st y = some (I b)) (hb : b ≠ 0) (h1 : -9223372036854775808 ≤ a.tdiv b) (h2 : a.tdiv b ≤ 9223372036854775807) : Val P w0 g0 o st (I (a.tdiv b)) :=
 Val.bin ho hx hy rfl (fun w => by rw [binOp_quo]; simp [Op.intDiv, hb, wrap_i64 h1 h2]) rfl
theorem Val.mul {a b : Int} (ho : o.op = .binOp .mul ty x y ty') (hx : T.opd 0 st x = some (I a)) (hy : T.opd 0 st y = some (I b)) (h1 : -9223372036854775808 ≤ a * b) (h2 : a * b ≤ 9223372036854775807) : Val P w0 g0 o st (I (a * b)) :=
 Val.bin ho hx hy rfl (fun w => by rw [binOp_mul]; simp only [Op.intArith]; rw [wrap_i64 h1 h2]; rfl) rfl
theorem Val.neg {a : Int} (ho : o.op = .unOp .neg ty x) (hx : T.opd 0 st x = some (I a)) (h1 : -9223372036854775807 ≤ a) (h2 : a ≤ 9223372036854775807) : Val P w0 g0 o st (I (-a)) :=
 fun s w g hR => ⟨.int .i64 (-a), fun w' _ => by
  have h : IntKind.i64.wrap (-a) = -a := wrap_i64 (by omega) (by omega)
  simp [execOp, ho, hR.val hx, Op.unary, Op.intArith, h], V_mk rfl⟩
theorem Val.conv {src dst : TypeId} {k k' : IntKind} {a b : Int} (ho : o.op = .convert src dst x) (hx : T.opd 0 st x = some (V (.int k a))) (hs : (P.underlying src).isSome = true) (hk : P.intKind dst = k')
  (hd : P.underlying dst = some (.int (P.intKind dst))) (hb : k'.wrap a = b) : Val P w0 g0 o st (V (.int k' b)) :=
 fun s w g hR => ⟨.int k' b, fun w' _ => by simp [execOp, ho, hR.val hx, run_convert_int (P := P) w' src dst k a hs hd, hk, hb], V_mk rfl⟩
theorem Val.sliceS {s : ByteArray} {lo hi : Operand} {i j : Int} (ho : o.op = .slice ty x (some lo) (some hi) none) (hx : T.opd 0 st x = some (S s)) (hu : P.underlying ty = some .string) (hlo : T.opd 0 st lo = some (I i)) (hhi : T.opd 0 st hi = some (I j))
  (h0 : 0 ≤ i) (h1 : i ≤ j) (h2 : j ≤ s.size) : Val P w0 g0 o st (S (s.extract i.toNat j.toNat)) :=
 fun a w g hR => ⟨.string (s.extract i.toNat j.toNat), fun w' _ => by
  obtain ⟨m, rfl⟩ := Int.eq_ofNat_of_zero_le h0
  obtain ⟨n, rfl⟩ := Int.eq_ofNat_of_zero_le (show 0 ≤ j by omega)
  have h3 : (n : Int) ≤ s.size := h2
  have h4 : m ≤ n := by omega
  have h5 : n ≤ s.size := by omega
  simp [execOp, ho, hR.val hx, hR.val hlo, hR.val hhi, Instr.sliceAt, Instr.slice, run_underlying hu, Instr.sliceBounds, Instr.sliceBound, asIntOf, h3, h4, h5], V_mk rfl⟩
end
end Go.Proofs.Ytcmoifejjodgcaa.T
namespace Go.Proofs.Ytcmoifejjodgcaa.T
open Go
set_option linter.unusedVariables false
set_option linter.unusedSimpArgs false
section
variable {P : Program} {w0 : World} {g0 : Gh} {st : St} {a : Act} {w : World} {g : Gh} {k1 q0 i0 j sz sz2 : Nat} {rt : Rt} {ds ds2 : List D} {e : D}
theorem Rel.ltOf (hR : Rel w0 g0 st a w g) {b : Nat} (hb : g.o b ≠ .outer) : b < w.heap.size := by
 rcases Nat.lt_or_ge b w.heap.size with h | h
 ·exact h
 ·exact absurd (hR.ks.fresh b h) hb
inductive GiveN (k1 q0 i0 j : Nat) : TS → TS → Prop
 | ro (d : D) : GiveN k1 q0 i0 j (.one (.c (.ro d))) (.one (.c (.ro d)))
 | it : GiveN k1 q0 i0 j (.one (.c (.ref ⟨k1, [(q0, i0)], j⟩))) (.one (.c (.ref ⟨pinK, [], 0⟩)))
inductive GiveNs (k1 q0 i0 j : Nat) : List TS → List TS → Prop
 | nil : GiveNs k1 q0 i0 j [] []
 | cons {t t' : TS} {ts ts' : List TS} (h : GiveN k1 q0 i0 j t t') (hs : GiveNs k1 q0 i0 j ts ts') : GiveNs k1 q0 i0 j (t :: ts) (t' :: ts')
theorem GiveNs.get : ∀ {ts ts' : List TS}, GiveNs k1 q0 i0 j ts ts' → ts'.length = ts.length ∧ ∀ (i : Nat) t', ts'[i]? = some t' → ∃ t, ts[i]? = some t ∧ GiveN k1 q0 i0 j t t'
 | _, _, .nil => ⟨rfl, fun i t' h => by simp at h⟩
 | _, _, .cons h hs => by
  obtain ⟨h1, h2⟩ := hs.get
  refine ⟨by simp [h1], fun i t' hi => ?_⟩
  cases i with
  | zero =>
   simp only [List.getElem?_cons_zero, Option.some.injEq] at hi
   subst hi
   exact ⟨_, rfl, h⟩
  | succ i => exact h2 i t' (by simpa using hi)
end
end Go.Proofs.Ytcmoifejjodgcaa.T
namespace Go.Proofs.Ytcmoifejjodgcaa.T
open Go
set_option linter.unusedVariables false
set_option linter.unusedSimpArgs false
set_option maxRecDepth 100000
theorem nrm : type_of% (And.intro @St.fresh.eq_1 (And.intro @St.kill.eq_1 (And.intro @St.setRoot.eq_1 (And.intro @St.put.eq_1 (And.intro @St.put.eq_2 (And.intro @St.renew.eq_1 (And.intro @TS.kill.eq_1 (And.intro @TS.kill.eq_2 (And.intro @TS.kill.eq_3 (And.intro @TV.kill.eq_1 (And.intro @TV.kill.eq_2 (And.intro @TV.kill.eq_3 (And.intro @TV.kill.eq_4 (And.intro @TV.kill.eq_5 (And.intro @TV.kill.eq_6 (And.intro @C.kill.eq_1 (And.intro @C.kill.eq_2 (And.intro @Rt.kill.eq_1 (And.intro @boxC.eq_1 (And.intro @boxC.eq_2 (And.intro @boxC.eq_3 (And.intro @St.wrote.eq_1 (And.intro @St.wrote.eq_2 (And.intro @hitR.eq_1 (And.intro @hitP.eq_1 (And.intro @shapeOf.eq_1 (And.intro @List.isPrefixOf.eq_1.{0} (And.intro @List.isPrefixOf.eq_2.{0} (And.intro @List.isPrefixOf.eq_3.{0} (And.intro @resT.eq_1 (And.intro @resT.eq_2 (And.intro @valsD.eq_1 (And.intro @valsD.eq_2 (And.intro @valsD.eq_3 (And.intro @refsD.eq_1 (And.intro @refsD.eq_2 (And.intro @refD.eq_1 (And.intro @refD.eq_2 (And.intro @nextD.eq_1 (And.intro @nextD.eq_2 (And.intro @nextsD.eq_1 (And.intro @nextsD.eq_2 (And.intro @cellsD.eq_1 (And.intro @cellsD.eq_2 (And.intro @cellsD.eq_3 (And.intro @isSl.eq_1 (And.intro @isSl.eq_2 (And.intro @List.map_cons.{0,0} (And.intro @List.map_nil.{0,0} (And.intro @List.filter_cons.{0} (And.intro @List.filter_nil.{0} (And.intro @List.set_cons_succ.{0} (And.intro @List.set_cons_zero.{0} (And.intro @List.contains_cons.{0} (And.intro @List.contains_nil.{0} (And.intro @List.append_eq.{0} (And.intro @Bool.and_true (And.intro @Bool.true_and (And.intro @Bool.and_false (And.intro @Bool.false_and (And.intro @List.nil_append.{0} (And.intro @List.cons_append.{0} (And.intro @beq_self_eq_true.{0} (And.intro @bne_self_eq_false.{0} (And.intro @Bool.or_false (And.intro @Bool.or_true (And.intro @Bool.not_true (And.intro @Bool.not_false (And.intro @Bool.false_eq_true (And.intro @if_true.{1} (And.intro @if_false.{1} (@List.append_nil.{0})))))))))))))))))))))))))))))))))))))))))))))))))))))))))))))))))))))))) := And.intro @St.fresh.eq_1 (And.intro @St.kill.eq_1 (And.intro @St.setRoot.eq_1 (And.intro @St.put.eq_1 (And.intro @St.put.eq_2 (And.intro @St.renew.eq_1 (And.intro @TS.kill.eq_1 (And.intro @TS.kill.eq_2 (And.intro @TS.kill.eq_3 (And.intro @TV.kill.eq_1 (And.intro @TV.kill.eq_2 (And.intro @TV.kill.eq_3 (And.intro @TV.kill.eq_4 (And.intro @TV.kill.eq_5 (And.intro @TV.kill.eq_6 (And.intro @C.kill.eq_1 (And.intro @C.kill.eq_2 (And.intro @Rt.kill.eq_1 (And.intro @boxC.eq_1 (And.intro @boxC.eq_2 (And.intro @boxC.eq_3 (And.intro @St.wrote.eq_1 (And.intro @St.wrote.eq_2 (And.intro @hitR.eq_1 (And.intro @hitP.eq_1 (And.intro @shapeOf.eq_1 (And.intro @List.isPrefixOf.eq_1.{0} (And.intro @List.isPrefixOf.eq_2.{0} (And.intro @List.isPrefixOf.eq_3.{0} (And.intro @resT.eq_1 (And.intro @resT.eq_2 (And.intro @valsD.eq_1 (And.intro @valsD.eq_2 (And.intro @valsD.eq_3 (And.intro @refsD.eq_1 (And.intro @refsD.eq_2 (And.intro @refD.eq_1 (And.intro @refD.eq_2 (And.intro @nextD.eq_1 (And.intro @nextD.eq_2 (And.intro @nextsD.eq_1 (And.intro @nextsD.eq_2 (And.intro @cellsD.eq_1 (And.intro @cellsD.eq_2 (And.intro @cellsD.eq_3 (And.intro @isSl.eq_1 (And.intro @isSl.eq_2 (And.intro @List.map_cons.{0,0} (And.intro @List.map_nil.{0,0} (And.intro @List.filter_cons.{0} (And.intro @List.filter_nil.{0} (And.intro @List.set_cons_succ.{0} (And.intro @List.set_cons_zero.{0} (And.intro @List.contains_cons.{0} (And.intro @List.contains_nil.{0} (And.intro @List.append_eq.{0} (And.intro @Bool.and_true (And.intro @Bool.true_and (And.intro @Bool.and_false (And.intro @Bool.false_and (And.intro @List.nil_append.{0} (And.intro @List.cons_append.{0} (And.intro @beq_self_eq_true.{0} (And.intro @bne_self_eq_false.{0} (And.intro @Bool.or_false (And.intro @Bool.or_true (And.intro @Bool.not_true (And.intro @Bool.not_false (And.intro @Bool.false_eq_true (And.intro @if_true.{1} (And.intro @if_false.{1} (@List.append_nil.{0})))))))))))))))))))))))))))))))))))))))))))))))))))))))))))))))))))))))
theorem nput : type_of% (And.intro @St.put.eq_1 (And.intro @St.put.eq_2 (And.intro @List.set_cons_succ.{0} (@List.set_cons_zero.{0})))) := And.intro @St.put.eq_1 (And.intro @St.put.eq_2 (And.intro @List.set_cons_succ.{0} (@List.set_cons_zero.{0})))
section
variable {P : Program} {w0 : World} {g0 : Gh} {st : St}
theorem TL.vE {ops : Array Oper} {o : Oper} {rest : List Oper} {st' : St} {Q : St → Prop} {t : TS} (h : Val P w0 g0 o st t) (hq : TL P w0 g0 ops rest st' Q) (hg : o.guard = none := by exact rfl) (hp : st.put o.dst t = st' := by simp only [nput]; rfl) :
  TL P w0 g0 ops (o :: rest) st Q := TL.valE hg h hp hq
theorem TQ.vE {ops : Array Oper} {o : Oper} {rest : List Oper} {st' : St} {Q : St → Prop} {t : TS} (h : Val P w0 g0 o st t) (hq : TQ P w0 g0 ops rest st' Q) (hg : o.guard = none := by exact rfl) (hp : st.put o.dst t = st' := by simp only [nput]; rfl) :
  TQ P w0 g0 ops (o :: rest) st Q := TQ.valE hg h hp hq
end
end Go.Proofs.Ytcmoifejjodgcaa.T
namespace Go.Proofs.Ytcmoifejjodgcaa.T
open Go
set_option linter.unusedVariables false
set_option linter.unusedSimpArgs false
def reaches (md : Region.Mode) (ops : Array Oper) : Nat → Nat → Nat → Bool
 | 0, _, _ => false
 | n + 1, j, i => match ops[j]? with
  | none => false
  | some o => o.after.any fun e => Region.binds md e && (e.on == i || reaches md ops n e.on i)
def Closed (md : Region.Mode) (ops : Array Oper) (listed : Array Bool) : Prop :=
 ∀ j o, ops[j]? = some o → listed.getD j false = true → ∀ e ∈ o.after, Region.binds md e = true → listed.getD e.on false = true
theorem Closed.set {md : Region.Mode} {ops : Array Oper} {listed : Array Bool} (h : Closed md ops listed) {i : Nat} (hi : i ∈ Region.ready md ops listed) : Closed md ops (listed.setIfInBounds i true) := fun j o ho hj e he hb => by
 by_cases hji : i = j
 ·subst hji
  obtain ⟨_, o', ho', hall⟩ := mem_ready.1 hi
  rw [ho] at ho'
  cases ho'
  exact getD_set_true (hall e he hb)
 ·rw [getD_set_ne false hji] at hj
  exact getD_set_true (h j o ho hj e he hb)
theorem reaches_listed {md : Region.Mode} {ops : Array Oper} {listed : Array Bool} (hc : Closed md ops listed) {i : Nat} : ∀ (n j : Nat), (∀ o, ops[j]? = some o → ∀ e ∈ o.after, Region.binds md e = true → listed.getD e.on false = true) →
  reaches md ops n j i = true → listed.getD i false = true
 | 0, j, _, h => by simp [reaches] at h
 | n + 1, j, hj, h => by
  unfold reaches at h
  cases ho : ops[j]? with
  | none => rw [ho] at h; cases h
  | some o =>
   rw [ho] at h
   simp only [Array.any_eq_true] at h
   obtain ⟨t, ht, h⟩ := h
   simp only [Bool.and_eq_true, Bool.or_eq_true, beq_iff_eq] at h
   have hl := hj o ho o.after[t] (Array.getElem_mem ht) h.1
   rcases h.2 with h2 | h2
   ·rw [← h2]; exact hl
   ·exact reaches_listed hc n _ (fun o' ho' e he hb => hc _ o' ho' hl e he hb) h2
def wpAnyW (P : Program) (md : Region.Mode) (ops : Array Oper) (Q : Exit → Act → World → Prop) (wr : Nat) : Nat → Array Bool → Act → World → Prop
 | 0, listed, a, w => Region.ready md ops listed = [] ∧ Q .normal a w
 | fuel + 1, listed, a, w => (Region.ready md ops listed = [] → Q .normal a w) ∧ ∀ i ∈ Region.ready md ops listed,
   if i = wr then wpOp P ops Q i (wpAnyW P md ops Q wr fuel (listed.setIfInBounds i true)) a w else mOp P ops i (wpAnyW P md ops Q wr fuel (listed.setIfInBounds i true)) a w
section
variable {P : Program} {ops : Array Oper} {md : Region.Mode} {Q : Exit → Act → World → Prop} {wr : Nat}
theorem wpOp_mono' {i : Nat} {a : Act} {w : World} {K K' : Act → World → Prop} (h : ∀ a w, K a w → K' a w) (hh : wpOp P ops Q i K a w) : wpOp P ops Q i K' a w := by
 unfold wpOp at *
 split
 ·rename_i ho; simp only [ho] at hh; exact h _ _ hh
 ·rename_i o ho
  simp only [ho] at hh
  split
  ·rename_i hw
   simp only [hw, if_true] at hh
   rcases hh with hh | hh
   ·exact .inl (Oper.wp_mono h hh)
   ·exact .inr hh
  ·rename_i hw; simp only [hw] at hh; exact h _ _ hh
theorem wpAnyW_first {i : Nat} {oi : Oper} {v : Value} (hi : ops[i]? = some oi) (hsel : ∀ (j : Nat) (o : Oper) cs b, ops[j]? = some o → o.op ≠ .select cs b) (hne : i ≠ wr) {n : Nat} (hre : reaches md ops n wr i = true) :
  ∀ (fuel : Nat) (listed : Array Bool) (a : Act) (w : World), Closed md ops listed →
   (∀ j oj, ops[j]? = some oj → j ≠ i → listed.getD j true = false → (∀ e ∈ oj.after, Region.binds md e = true → e.on ≠ i) → oi.apart ops oj = true) →
   i ∈ Region.ready md ops listed → YV P ops oi v a w →
   wpAnyW P md ops Q wr fuel (listed.setIfInBounds i true) (a.put oi.dst v) w → wpAnyW P md ops Q wr (fuel + 1) listed a w := by
 intro fuel
 induction fuel with
 | zero =>
  intro listed a w _ _ hr hy H
  refine ⟨fun h => (by rw [h] at hr; cases hr), fun j hj => ?_⟩
  by_cases hji : j = i
  ·subst hji; rw [if_neg hne]; exact hy.mOp hi H
  ·have := ready_mono hj hji
   rw [H.1] at this
   cases this
 | succ fuel ih =>
  intro listed a w hcl hfree hr hy H
  refine ⟨fun h => (by rw [h] at hr; cases hr), fun j hj => ?_⟩
  by_cases hji : j = i
  ·subst hji; rw [if_neg hne]; exact hy.mOp hi H
  ·have hjw : j ≠ wr := fun e => by
    subst e
    obtain ⟨_, o', ho', hall⟩ := mem_ready.1 hj
    have h1 := reaches_listed hcl n j (fun o ho e he hb => by rw [ho'] at ho; cases ho; exact hall e he hb) hre
    have h0 := (mem_ready.1 hr).1
    rcases Nat.lt_or_ge i listed.size with h' | h'
    ·simp [h'] at h0 h1; rw [h0] at h1; cases h1
    ·simp [Array.getElem?_eq_none h'] at h1
   rw [if_neg hjw]
   have h1 := H.2 j (ready_mono hj hji)
   rw [if_neg hjw] at h1
   obtain ⟨hjun, oj, hoj, hall⟩ := mem_ready.1 hj
   have hnot : ∀ e ∈ oj.after, Region.binds md e = true → e.on ≠ i := fun e he hb heq => by
    have h1 := hall e he hb
    have h0 := (mem_ready.1 hr).1
    rw [heq] at h1
    rcases Nat.lt_or_ge i listed.size with h' | h'
    ·simp [h'] at h0 h1; rw [h0] at h1; cases h1
    ·simp [Array.getElem?_eq_none h'] at h1
   have h2 := mOp_put hoj (hfree j oj hoj hji hjun hnot) (fun cs b => hsel i oi cs b hi) (fun cs b => hsel j oj cs b hoj) hy h1
   have hfree' : ∀ k ok, ops[k]? = some ok → k ≠ i → (listed.setIfInBounds j true).getD k true = false →
     (∀ e ∈ ok.after, Region.binds md e = true → e.on ≠ i) → oi.apart ops ok = true := fun k ok hk hki hun hno => by
    refine hfree k ok hk hki ?_ hno
    by_cases hjk : j = k
    ·subst hjk; exact hjun
    ·rw [getD_set_ne true hjk] at hun; exact hun
   refine mOp_mono (fun a' w' h3 => ih (listed.setIfInBounds j true) a' w' (hcl.set hj) hfree' (ready_mono hr (Ne.symm hji)) h3.1 ?_) h2
   rw [Array.setIfInBounds_comm _ _ hji]
   exact h3.2
end
def eagerW (ops : Array Oper) (wr : Nat) : List (Nat × Bool) → Array Bool → Bool
 | [], listed => (Region.ready .any ops listed).isEmpty
 | (i, b) :: l, listed => (if b then Region.ready .any ops listed == [i] else (Region.ready .any ops listed).contains i && Region.free .any ops listed i && i != wr && reaches .any ops ops.size wr i) && eagerW ops wr l (listed.setIfInBounds i true)
section
variable {P : Program} {w0 : World} {g0 : Gh} {st : St}
def TW (P : Program) (w0 : World) (g0 : Gh) (ops : Array Oper) (wr : Nat) (l : List (Nat × Bool)) (st : St) (Q : St → Prop) : Prop :=
 ∀ listed, Region.noSelect ops = true → Closed .any ops listed → eagerW ops wr l listed = true → ∀ a w g, Rel w0 g0 st a w g → ∀ (Q' : Exit → Act → World → Prop), (∀ st' a' w' g', Q st' → Rel w0 g0 st' a' w' g' → Q' .normal a' w') →
  wpAnyW P .any ops Q' wr l.length listed a w
theorem TW.nil {ops : Array Oper} {wr : Nat} {Q : St → Prop} (h : Q st) : TW P w0 g0 ops wr [] st Q := fun listed hs hc he a w g hR Q' hQ =>
 ⟨by simpa [eagerW, List.isEmpty_iff] using he, hQ st a w g h hR⟩
theorem TW.quiet {ops : Array Oper} {wr i : Nat} {b : Bool} {l : List (Nat × Bool)} {st' : St} {Q : St → Prop} {o : Oper} {tl : List Oper} (hne : i ≠ wr) (hd0 : ops.toList.drop i = o :: tl)
  (h : ∀ a w g, Rel w0 g0 st a w g → ∃ v, YV P ops o v a w ∧ Rel w0 g0 st' (a.put o.dst v) w g) (hq : TW P w0 g0 ops wr l st' Q) : TW P w0 g0 ops wr ((i, b) :: l) st Q := fun listed hs hc he a w g hR Q' hQ => by
 have hi := at_drop hd0
 simp only [eagerW, Bool.and_eq_true] at he
 obtain ⟨h1, h2⟩ := he
 obtain ⟨v, hy, hR'⟩ := h a w g hR
 cases b
 ·simp only [Bool.false_eq_true, if_false, Bool.and_eq_true] at h1
  have hri : i ∈ Region.ready .any ops listed := by simpa using h1.1.1.1
  have hnext := hq (listed.setIfInBounds i true) hs (hc.set hri) h2 _ w g hR' Q' hQ
  exact wpAnyW_first hi (Region.noSelect_spec hs) hne h1.2 _ listed a w hc (Region.free_spec hi h1.1.1.2) hri hy hnext
 ·simp only [if_true, beq_iff_eq] at h1
  have hri : i ∈ Region.ready .any ops listed := by rw [h1]; exact List.mem_singleton.2 rfl
  have hnext := hq (listed.setIfInBounds i true) hs (hc.set hri) h2 _ w g hR' Q' hQ
  refine ⟨fun h0 => (by rw [h1] at h0; cases h0), fun j hj => ?_⟩
  rw [h1] at hj
  rw [List.mem_singleton.1 hj, if_neg hne]
  exact hy.mOp hi hnext
theorem TW.valE {ops : Array Oper} {wr i : Nat} {b : Bool} {l : List (Nat × Bool)} {st' : St} {Q : St → Prop} {o : Oper} {t : TS} {tl : List Oper} (hne : i ≠ wr) (hd0 : ops.toList.drop i = o :: tl) (hg : yes ops st o) (h : Val P w0 g0 o st t) (hp : st.put o.dst t = st')
  (hq : TW P w0 g0 ops wr l st' Q) : TW P w0 g0 ops wr ((i, b) :: l) st Q := TW.quiet hne hd0 (fun a w g hR => by
 obtain ⟨v, hr, hv⟩ := h a w g hR
 exact ⟨v, .inl ⟨yes_of hg hR, fun w' hw' => hr w' hw'.2.2.2.2⟩, hp ▸ hR.put hv o.dst⟩) hq
theorem TW.opM {ops : Array Oper} {wr i : Nat} {l : List (Nat × Bool)} {Q : St → Prop} {o : Oper} {tl : List Oper} (hne : i ≠ wr) (hd0 : ops.toList.drop i = o :: tl) (hg : yes ops st o)
  (h : ∀ K : St → Prop, (∀ st', TW P w0 g0 ops wr l st' Q → K st') → OpM P w0 g0 o st K) : TW P w0 g0 ops wr ((i, true) :: l) st Q := fun listed hs hc he a w g hR Q' hQ => by
 have hi := at_drop hd0
 simp only [eagerW, Bool.and_eq_true, if_true, beq_iff_eq] at he
 have h1 := he.1
 have hri : i ∈ Region.ready .any ops listed := by rw [h1]; exact List.mem_singleton.2 rfl
 refine ⟨fun h0 => (by rw [h1] at h0; cases h0), fun j hj => ?_⟩
 rw [h1] at hj
 rw [List.mem_singleton.1 hj, if_neg hne]
 unfold mOp
 simp only [hi, yes_of hg hR, if_true]
 exact h _ (fun _ h => h) a w g hR _ fun st' a' w' g' hq hR' => hq _ hs (hc.set hri) he.2 a' w' g' hR' Q' hQ
theorem TW.last {ops : Array Oper} {wr : Nat} {l : List (Nat × Bool)} {Q : St → Prop} {o : Oper} {tl : List Oper} (hd0 : ops.toList.drop wr = o :: tl) (hg : yes ops st o)
  (h : ∀ K : St → Prop, (∀ st', TW P w0 g0 ops wr l st' Q → K st') → OpT P w0 g0 o st K) : TW P w0 g0 ops wr ((wr, true) :: l) st Q := fun listed hs hc he a w g hR Q' hQ => by
 have hi := at_drop hd0
 simp only [eagerW, Bool.and_eq_true, if_true, beq_iff_eq] at he
 have h1 := he.1
 have hri : wr ∈ Region.ready .any ops listed := by rw [h1]; exact List.mem_singleton.2 rfl
 refine ⟨fun h0 => (by rw [h1] at h0; cases h0), fun j hj => ?_⟩
 rw [h1] at hj
 rw [List.mem_singleton.1 hj, if_pos rfl]
 unfold wpOp
 simp only [hi, yes_of hg hR, if_true]
 exact .inl (h _ (fun _ h => h) a w g hR _ _ fun st' a' w' g' hq hR' => hq _ hs (hc.set hri) he.2 a' w' g' hR' Q' hQ)
theorem OpM.callF {o : Oper} {st' : St} {Q : St → Prop} {f : FuncId} {cx : Operand} {args : List Operand} {tys : Array TypeId} {fn : Func}
  (ho : o.op = .call { callee := .value cx, args := args.toArray, argTypes := tys }) (hcx : T.opd 0 st cx = some (.fn f [])) (hf : P.funcs[f]? = some fn) (hb : fn.body.isNone = false)
  (hn : (fn.name == "runtime.NumGoroutine") = false) {ts ts' : List TS} (hx : opds st args = some ts) {t : TS} {x : Value} (hc : FunK P w0 g0 f ts' (RP t)) (hs : Snaps st ts ts') (hp : freeS t = some x)
  (hpt : st.put o.dst t = st') (hq : Q st') : OpM P w0 g0 o st Q := fun a w g hR K' hK' => by
 have h1 := hR.opds hx
 have h2 := hs.get
 have hcall := hc w hR.ks.kept { g with o := allRo w } (args.map a.eval).toArray 0 rfl (by simp [h1.1, h2.1]) (fun i t' u hi hu => by
  obtain ⟨t, h3, h4⟩ := h2.2 i t' hi
  exact hR.snap h4 (h1.2 i t u h3 (by simpa using hu)) _ rfl)
 rw [run_enter hR ho hcx hf hb hn w]
 refine ⟨Later.refl w, hcall.mono fun e w' ⟨v, r, g', he, hr, hG⟩ => ?_⟩
 have h5 := hG.val
 rw [hr] at h5
 have h6 := (freeS_inv hp).1 h5
 subst h6
 exact ⟨v, he, hG.later, hK' _ _ _ _ hq (hpt ▸ (hR.later hG.later).put ((freeS_inv hp).2 rfl) o.dst)⟩
end
end Go.Proofs.Ytcmoifejjodgcaa.T
namespace Go.Proofs.Ytcmoifejjodgcaa.T
open Go
set_option linter.unusedVariables false
set_option linter.unusedSimpArgs false
section
variable {P : Program} {w0 : World} {g0 : Gh} {st : St} {o : Oper} {ty e : TypeId} {x y : Operand}
end
end Go.Proofs.Ytcmoifejjodgcaa.T
namespace Go.Proofs.Ytcmoifejjodgcaa.T
open Go
set_option linter.unusedVariables false
set_option linter.unusedSimpArgs false
set_option maxRecDepth 100000
def Gh.takeN (g : Gh) (k1 : Nat) (p1 : List (Nat × Nat)) (q1 L : Nat) : Gh where
 o b := match g.o b with
  | .lies k' P Q => if k' = k1 then (if P = p1 ∧ Q = q1 then .lies L [] 0 else match behind p1 q1 P with | some (i, r) => .lies L ((0, i) :: r) Q | none => .lies k' P Q) else if k' = L then .ro else .lies k' P Q
  | .box k' => if k' = L then .ro else .box k'
  | t => t
 ad k' P := if k' = L then (match P with | [] => (0, 0) | (_, i) :: r => g.ad k1 (p1 ++ (q1, i) :: r)) else g.ad k' P
 cv k' P Q := if k' = L then (match P with | [] => g.cv k1 p1 q1 | (_, i) :: r => g.cv k1 (p1 ++ (q1, i) :: r) Q) else g.cv k' P Q
section
variable {w : World} {g : Gh} {k1 : Nat} {p1 : List (Nat × Nat)} {q1 L : Nat}
theorem takeN_cv {k' : Nat} (h : k' ≠ L) (P : List (Nat × Nat)) (Q : Nat) : (g.takeN k1 p1 q1 L).cv k' P Q = g.cv k' P Q := by simp only [Gh.takeN, if_neg h]
theorem takeN_ad {k' : Nat} (h : k' ≠ L) (P : List (Nat × Nat)) : (g.takeN k1 p1 q1 L).ad k' P = g.ad k' P := by simp only [Gh.takeN, if_neg h]
theorem takeN_ro {b : Nat} (h : g.o b = .ro) : (g.takeN k1 p1 q1 L).o b = .ro := by simp [Gh.takeN, h]
theorem takeN_box {b k' : Nat} (h : k' ≠ L) (hb : g.o b = .box k') : (g.takeN k1 p1 q1 L).o b = .box k' := by simp [Gh.takeN, hb, h]
theorem takeN_lies {b k' : Nat} {P : List (Nat × Nat)} {Q : Nat} (h : k' ≠ L) (hn : k' = k1 → ¬ Un p1 q1 P Q) (hb : g.o b = .lies k' P Q) : (g.takeN k1 p1 q1 L).o b = .lies k' P Q := by
 simp only [Gh.takeN, hb]
 by_cases e : k' = k1
 ·have hn' := hn e
  rw [if_pos e, if_neg (fun h => hn' (.inl ⟨h.1, h.2⟩)), behind_none (fun ⟨i, r, hx⟩ => hn' (.inr ⟨i, r, hx⟩))]
 ·rw [if_neg e, if_neg h]
theorem takeN_o0 {b : Nat} (hb : g.o b = .lies k1 p1 q1) : (g.takeN k1 p1 q1 L).o b = .lies L [] 0 := by simp [Gh.takeN, hb]
theorem takeN_o1 {b i Q : Nat} {r : List (Nat × Nat)} (hb : g.o b = .lies k1 (p1 ++ (q1, i) :: r) Q) : (g.takeN k1 p1 q1 L).o b = .lies L ((0, i) :: r) Q := by
 simp only [Gh.takeN, hb, if_true, behind_append]
 rw [if_neg]
 rintro ⟨h, _⟩
 have := congrArg List.length h
 simp at this
theorem takeN_else {k' : Nat} {P : List (Nat × Nat)} {Q : Nat} {d : D} (h : k' ≠ L) (hn : k' = k1 → ¬ Un P Q p1 q1 ∧ ¬ Un p1 q1 P Q) (hr : Ow w g k' P Q d) : Ow w (g.takeN k1 p1 q1 L) k' P Q d := by
 refine Ow.move hr ⟨takeN_cv h _ _, fun i r q' => takeN_cv h _ _, fun i r => takeN_ad h _, fun b hb => ⟨takeN_lies h (fun e => (hn e).2) hb, rfl⟩, fun b i r q' hb => ⟨takeN_lies h (fun e hu => ?_) hb, rfl⟩⟩
 rcases Un.both (p := P) (q := Q) (.inr ⟨i, r, rfl⟩) hu with hx | hx
 ·exact (hn e).1 hx
 ·exact (hn e).2 hx
theorem Un.long {p p' : List (Nat × Nat)} {q q' : Nat} (h : Un p q p' q') : p.length ≤ p'.length := by
 rcases h with ⟨h, _⟩ | ⟨i, r, h⟩
 ·rw [h]; exact Nat.le_refl _
 ·rw [h]; simp
theorem set_one {e : D} {r : List (Nat × Nat)} {q : Nat} {er : List D} (her : setAt e.row r q .hole = some er) : (e.reRow er).row = er := by
 have herl := setAt_length r e.row q .hole er her
 refine D.row_reRow e er herl (fun x hx hst => ?_)
 subst hx
 cases r with
 | nil =>
  simp only [setAt] at her
  split at her
  ·simp only [Option.some.injEq] at her
   cases e with
   | st ds => exact absurd rfl (hst ds)
   | _ =>
    simp only [D.row, List.length_cons, List.length_nil] at *
    have hq0 : q = 0 := by omega
    subst hq0
    simp only [List.set_cons_zero, List.cons.injEq, and_true] at her
    subst her
    rfl
  ·cases her
 | cons y r =>
  obtain ⟨y1, y2⟩ := y
  simp only [setAt] at her
  split at her
  ·rename_i sz' ds' hy
   split at her
   ·simp only [Option.map_eq_some_iff] at her
    obtain ⟨z, _, hz⟩ := her
    cases e with
    | st ds => exact absurd rfl (hst ds)
    | _ =>
     simp only [D.row] at *
     cases y1 with
     | zero =>
      simp only [List.set_cons_zero, List.cons.injEq, and_true] at hz
      subst hz
      rfl
     | succ y1 => simp at hy
   ·cases her
  ·cases her
theorem takeN_sl {p0 : List (Nat × Nat)} {q0 i : Nat} {r : List (Nat × Nat)} {sz : Nat} {ds : List D} {e : D} {er : List D} (hL : k1 ≠ L) (hp : p1 = p0 ++ (q0, i) :: r) (hsl : Ow w g k1 p0 q0 (.sl sz ds)) (he : ds[i]? = some e)
  (her : setAt e.row r q1 .hole = some er) (hin : RowOk w (g.takeN k1 p1 q1 L) k1 (p0 ++ [(q0, i)]) er) : Ow w (g.takeN k1 p1 q1 L) k1 p0 q0 (.sl sz (ds.set i (e.reRow er))) := by
 have herl := setAt_length r e.row q1 .hole er her
 have herr := set_one her
 have hlen : p1.length = p0.length + 1 + r.length := by rw [hp]; simp; omega
 cases hsl with
 | nil _ _ _ hc => simp at he
 | sl _ _ _ _ b off n c cs ty hc hn hm hnc hcm ho hb hfit hro had0 hcell hel =>
  refine .sl p0 q0 sz _ b off n c cs ty (by rw [takeN_cv hL]; exact hc) (by rw [List.length_set]; exact hn) hm hnc hcm (takeN_lies hL (fun _ hu => by have := hu.long; omega) ho) hb hfit (fun d hd => ?_)
   (fun j hj => by rw [takeN_ad hL]; exact had0 j hj) (fun j j2 hj hj2 => by rw [takeN_cv hL]; exact hcell j j2 hj hj2) (fun j d hd j2 c' hj2 => ?_)
  ·rcases List.mem_or_eq_of_mem_set hd with h | h
   ·exact hro d h
   ·rw [h, herr, herl]
    exact hro e (List.mem_of_getElem? he)
  ·rw [List.getElem?_set] at hd
   by_cases e1 : i = j
   ·subst e1
    rw [if_pos rfl] at hd
    split at hd
    ·simp only [Option.some.injEq] at hd
     subst hd
     rw [herr] at hj2
     exact hin.own j2 c' hj2
    ·cases hd
   ·rw [if_neg e1] at hd
    refine takeN_else hL (fun _ => ⟨fun hu => ?_, fun hu => ?_⟩) (hel j d hd j2 c' hj2)
    ·rcases hu with ⟨hx, _⟩ | ⟨i', r', hx⟩
     ·rw [hp] at hx
      have := List.append_cancel_left hx
      simp only [List.cons.injEq, Prod.mk.injEq] at this
      exact e1 this.1.2
     ·rw [hp, List.append_assoc] at hx
      have := List.append_cancel_left hx
      simp only [List.cons_append, List.nil_append, List.cons.injEq, Prod.mk.injEq] at this
      exact e1 this.1.2
    ·rcases hu with ⟨hx, _⟩ | ⟨i', r', hx⟩
     ·rw [hp] at hx
      have := List.append_cancel_left hx
      simp only [List.cons.injEq, Prod.mk.injEq] at this
      exact e1 this.1.2.symm
     ·have h3 := congrArg List.length hx
      simp only [List.length_append, List.length_cons, List.length_nil] at h3
      omega
theorem takeN_row (hL : k1 ≠ L) : ∀ (r : List (Nat × Nat)) {p0 : List (Nat × Nat)} {row row' : List D}, RowOk w g k1 p0 row → p1 = p0 ++ r → setAt row r q1 .hole = some row' → RowOk w (g.takeN k1 p1 q1 L) k1 p0 row'
 | r, p0, row, row', h, hp, hs => by
  have hlen := setAt_length r row q1 .hole row' hs
  have hl1 : p1.length = p0.length + r.length := by rw [hp]; simp
  refine ⟨fun j c hj => ?_, fun j hj => by rw [takeN_ad hL, takeN_cv hL]; exact h.cell j (by omega), ?_⟩
  ·cases r with
   | nil =>
    simp only [setAt] at hs
    split at hs
    ·rename_i hq
     simp only [Option.some.injEq] at hs
     subst hs
     rw [List.getElem?_set] at hj
     by_cases e : q1 = j
     ·subst e
      rw [if_pos rfl, if_pos hq, Option.some.injEq] at hj
      subst hj
      exact .hole _ _
     ·rw [if_neg e] at hj
      rw [List.append_nil] at hp
      refine takeN_else hL (fun _ => ⟨fun hu => ?_, fun hu => ?_⟩) (h.own j c hj)
      ·rcases hu with ⟨_, hx⟩ | ⟨i', r', hx⟩
       ·exact e hx
       ·rw [hp] at hx
        have := congrArg List.length hx
        simp at this
      ·rcases hu with ⟨_, hx⟩ | ⟨i', r', hx⟩
       ·exact e hx.symm
       ·rw [hp] at hx
        have := congrArg List.length hx
        simp at this
    ·cases hs
   | cons y r =>
    obtain ⟨q0, i⟩ := y
    simp only [setAt] at hs
    split at hs
    ·rename_i sz ds hq
     split at hs
     ·rename_i e hd
      rw [Option.map_eq_some_iff] at hs
      obtain ⟨er, her, rfl⟩ := hs
      have hO := h.own q0 _ hq
      have hin := takeN_row hL r (hO.row hd) (by rw [hp]; simp) her
      rw [List.getElem?_set] at hj
      by_cases e1 : q0 = j
      ·subst e1
       rw [if_pos rfl] at hj
       split at hj
       ·simp only [Option.some.injEq] at hj
        subst hj
        exact takeN_sl hL hp hO hd her hin
       ·cases hj
      ·rw [if_neg e1] at hj
       refine takeN_else hL (fun _ => ⟨fun hu => ?_, fun hu => ?_⟩) (h.own j c hj)
       ·rcases hu with ⟨hx, _⟩ | ⟨i', r', hx⟩
        ·rw [hp] at hx
         have := congrArg List.length hx
         simp at this
        ·rw [hp] at hx
         have := List.append_cancel_left hx
         simp only [List.cons.injEq, Prod.mk.injEq] at this
         exact e1 this.1.1
       ·have := hu.long
        simp only [List.length_cons] at hl1
        omega
     ·cases hs
    ·cases hs
  ·rw [takeN_ad hL]
   have ht := h.tag
   rcases List.eq_nil_or_concat p0 with rfl | ⟨l, x, rfl⟩
   ·rw [tagOf_nil] at ht ⊢
    exact takeN_box hL ht
   ·obtain ⟨a, b⟩ := x
    rw [List.concat_eq_append] at *
    rw [tagOf_snoc] at ht ⊢
    refine takeN_lies hL (fun _ hu => ?_) ht
    have := hu.long
    simp only [List.length_append, List.length_cons, List.length_nil] at hl1
    omega
termination_by r => r.length
end
def reC (k1 : Nat) (p1 : List (Nat × Nat)) (q1 L : Nat) : C → C
 | .ref pl => if pl.k = k1 ∧ pl.p = p1 ∧ pl.q = q1 then .ref ⟨L, [], 0⟩ else .ref pl
 | .ro d => .ro d
 | .own d => .own d
 | .dead => .dead
def reT (k1 : Nat) (p1 : List (Nat × Nat)) (q1 L : Nat) : TS → TS
 | .one (.c c) => .one (.c (reC k1 p1 q1 L c))
 | .one (.agg cs) => .one (.agg cs)
 | .one (.ptr pl) => .one (.ptr pl)
 | .one (.cptr ds) => .one (.cptr ds)
 | .one (.tab p) => .one (.tab p)
 | .one (.ptab p) => .one (.ptab p)
 | .one (.cut pl sz lo hi) => .one (.cut pl sz lo hi)
 | .one .dead => .one .dead
 | .tup ts => .tup ts
 | .fn f ts => .fn f ts
def St.takeN (st : St) (k1 : Nat) (p1 : List (Nat × Nat)) (q1 L : Nat) : Option St :=
 match st.root k1 with
 | some r => match st.cellAt ⟨k1, p1, q1⟩ with
  | some (.own (.sl sz ds)) => (setRow (r.row.map (C.kill fun pl => pl.k == L)) p1 q1 (.own .hole)).map fun row' =>
   ⟨((st.fresh L ⟨false, [.own (.sl sz ds)]⟩).setRoot k1 ⟨r.mem, row'⟩).tmps.map (reT k1 p1 q1 L), ((st.fresh L ⟨false, [.own (.sl sz ds)]⟩).setRoot k1 ⟨r.mem, row'⟩).roots⟩
  | _ => none
 | none => none
section
variable {P : Program} {w0 : World} {g0 : Gh} {st : St} {a : Act} {w : World} {g : Gh}
theorem Rel.named (hR : Rel w0 g0 st a w g) {k1 : Nat} {p1 : List (Nat × Nat)} {q1 L : Nat} (he : g.cv L [] 0 = g.cv k1 p1 q1) : Rel w0 g0 ⟨st.tmps.map (reT k1 p1 q1 L), st.roots⟩ a w g := by
 refine ⟨fun i tv hi => ?_, by simp [hR.sz], hR.df, hR.rt, hR.ks⟩
 rw [List.getElem?_map, Option.map_eq_some_iff] at hi
 obtain ⟨t, h1, rfl⟩ := hi
 have h2 := hR.tm i t h1
 generalize a.tmps.getD i undef = u at h2
 unfold reT
 split
 ·rename_i c
  cases h2 with
  | one _ _ h2 =>
   cases h2 with
   | c _ _ h2 =>
    refine .one _ _ (.c _ _ ?_)
    unfold reC
    split
    ·rename_i pl
     split
     ·rename_i hx
      obtain ⟨k, p, q⟩ := pl
      obtain ⟨rfl, rfl, rfl⟩ := hx
      have h3 : u = g.cv k p q ∧ u.oneCell' = true := h2
      show u = g.cv L [] 0 ∧ u.oneCell' = true
      rw [he]
      exact h3
     ·exact h2
    all_goals exact h2
 all_goals exact h2
theorem Rel.takeN (hR : Rel w0 g0 st a w g) {k1 : Nat} {p1 : List (Nat × Nat)} {q1 L : Nat} {st' : St} (ht : st.takeN k1 p1 q1 L = some st') (hne : k1 ≠ L) (hLp : L < 1000000) : ∃ g1, Rel w0 g0 st' a w g1 := by
 unfold St.takeN at ht
 split at ht
 ·rename_i r hk
  split at ht
  ·rename_i sz ds hq
   rw [Option.map_eq_some_iff] at ht
   obtain ⟨row', hset, rfl⟩ := ht
   have hK1 : pinK ≠ L := by simp only [pinK]; omega
   have hB1 : pinB ≠ L := by simp only [pinB]; omega
   have hO : Ow w g k1 p1 q1 (.sl sz ds) := (hR.cellAt hq).1 _ rfl
   have hcvL : (g.takeN k1 p1 q1 L).cv L [] 0 = (g.takeN k1 p1 q1 L).cv k1 p1 q1 := by rw [takeN_cv hne]; simp [Gh.takeN]
   refine ⟨g.takeN k1 p1 q1 L, Rel.named ?_ hcvL⟩
   have hro : ∀ b, g.o b = .ro → (g.takeN k1 p1 q1 L).o b = .ro ∧ w.heap[b]? = w.heap[b]? := fun b hb => ⟨takeN_ro hb, rfl⟩
   have hA : Agree w g w (g.takeN k1 p1 q1 L) (fun pl => pl.k == L) (fun pl => pl.k == L) := ⟨hro, fun pl hp => takeN_cv (by simpa using hp) _ _, fun pl hp => takeN_ad (by simpa using hp) _⟩
   have hcell : ∀ k' q c, k' ≠ L → (k' = k1 → ¬ Un [] q p1 q1 ∧ ¬ Un p1 q1 [] q) → RepC w g k' q c → RepC w (g.takeN k1 p1 q1 L) k' q (c.kill fun pl => pl.k == L) := fun k' q c h1 h2 h3 => by
    cases c with
    | ro d => show Ro w _ d _; rw [takeN_cv h1]; exact Ro.mono hro h3
    | own d => exact takeN_else h1 h2 h3
    | ref pl =>
     have h4 : g.cv k' [] q = g.cv pl.k pl.p pl.q ∧ (g.cv k' [] q).oneCell' = true := h3
     simp only [C.kill]
     by_cases e : pl.k = L
     ·rw [if_pos (by simpa using e)]; trivial
     ·rw [if_neg (by simpa using e)]
      show (g.takeN k1 p1 q1 L).cv k' [] q = (g.takeN k1 p1 q1 L).cv pl.k pl.p pl.q ∧ ((g.takeN k1 p1 q1 L).cv k' [] q).oneCell' = true
      rw [takeN_cv h1, takeN_cv e]
      exact h4
    | dead => trivial
   have hrow1 : ∀ (q : Nat) c, row'[q]? = some c → RepC w (g.takeN k1 p1 q1 L) k1 q c := fun q c hc => by
    have hold : ∀ c, (r.row.map (C.kill fun pl => pl.k == L))[q]? = some c → (¬ Un [] q p1 q1 ∧ ¬ Un p1 q1 [] q) → RepC w (g.takeN k1 p1 q1 L) k1 q c := fun c hc hn => by
     rw [List.getElem?_map, Option.map_eq_some_iff] at hc
     obtain ⟨c1, h4, rfl⟩ := hc
     exact hcell k1 q c1 hne (fun _ => hn) (hR.rt.cell k1 r hk q c1 h4)
    cases p1 with
    | nil =>
     simp only [setRow] at hset
     split at hset
     ·rename_i hq1
      simp only [Option.some.injEq] at hset
      subst hset
      rw [List.getElem?_set] at hc
      by_cases e : q1 = q
      ·subst e
       rw [if_pos rfl, if_pos hq1, Option.some.injEq] at hc
       subst hc
       exact Ow.hole _ _
      ·rw [if_neg e] at hc
       refine hold c hc ⟨fun hu => ?_, fun hu => ?_⟩
       ·rcases hu with ⟨_, hx⟩ | ⟨i, r', hx⟩
        ·exact e hx
        ·cases hx
       ·rcases hu with ⟨_, hx⟩ | ⟨i, r', hx⟩
        ·exact e hx.symm
        ·cases hx
     ·cases hset
    | cons y p =>
     obtain ⟨q0, i⟩ := y
     simp only [setRow] at hset
     split at hset
     ·rename_i sz0 ds0 hq0
      split at hset
      ·rename_i e0 he0
       rw [Option.map_eq_some_iff] at hset
       obtain ⟨er, her, rfl⟩ := hset
       rw [List.getElem?_set] at hc
       by_cases e : q0 = q
       ·subst e
        rw [if_pos rfl] at hc
        split at hc
        ·simp only [Option.some.injEq] at hc
         subst hc
         rw [List.getElem?_map, Option.map_eq_some_iff] at hq0
         obtain ⟨c1, h4, h5⟩ := hq0
         have h6 : c1 = .own (.sl sz0 ds0) := by
          cases c1 with
          | ref pl => simp only [C.kill] at h5; split at h5 <;> cases h5
          | own d => exact h5
          | ro d => cases h5
          | dead => cases h5
         subst h6
         have hOr : Ow w g k1 [] q0 (.sl sz0 ds0) := hR.rt.cell k1 r hk q0 _ h4
         exact takeN_sl hne rfl hOr he0 her (takeN_row hne p (hOr.row he0) rfl her)
        ·cases hc
       ·rw [if_neg e] at hc
        refine hold c hc ⟨fun hu => ?_, fun hu => ?_⟩
        ·rcases hu with ⟨hx, _⟩ | ⟨i', r', hx⟩
         ·cases hx
         ·simp only [List.nil_append, List.cons.injEq, Prod.mk.injEq] at hx
          exact e hx.1.1
        ·have := hu.long
         simp at this
      ·cases hset
     ·cases hset
   have hroot : ∀ k' r', ((st.fresh L ⟨false, [.own (.sl sz ds)]⟩).setRoot k1 ⟨r.mem, row'⟩).root k' = some r' →
     (k' = k1 ∧ r' = ⟨r.mem, row'⟩) ∨ (k' = L ∧ r' = ⟨false, [.own (.sl sz ds)]⟩) ∨ (k' ≠ k1 ∧ k' ≠ L ∧ ∃ r1, st.root k' = some r1 ∧ r' = r1.kill fun pl => pl.k == L) := fun k' r' h => by
    rw [St.root_setRoot] at h
    split at h
    ·rename_i e
     simp only [Option.some.injEq] at h
     exact .inl ⟨e, h.symm⟩
    ·rename_i e
     rw [St.fresh, St.root_setRoot] at h
     split at h
     ·rename_i e2
      simp only [Option.some.injEq] at h
      exact .inr (.inl ⟨e2, h.symm⟩)
     ·rename_i e2
      rw [St.root_kill, Option.map_eq_some_iff] at h
      obtain ⟨r1, h1, h2⟩ := h
      exact .inr (.inr ⟨e, e2, r1, h1, h2.symm⟩)
   refine hR.change hA rfl ⟨fun k' r' hk' q c hc => ?_, fun k' r' hk' hm => ?_⟩ ?_
   ·rcases hroot k' r' hk' with ⟨rfl, rfl⟩ | ⟨rfl, rfl⟩ | ⟨h1, h2, r1, h3, rfl⟩
    ·exact hrow1 q c hc
    ·cases q with
     | succ q => simp at hc
     | zero =>
      simp only [List.getElem?_cons_zero, Option.some.injEq] at hc
      subst hc
      refine Ow.move hO ⟨by simp [Gh.takeN], fun i r q' => by simp [Gh.takeN], fun i r => by simp [Gh.takeN], fun b hb => ⟨takeN_o0 hb, rfl⟩, fun b i r q' hb => ⟨takeN_o1 hb, rfl⟩⟩
    ·simp only [Rt.kill, List.getElem?_map, Option.map_eq_some_iff] at hc
     obtain ⟨c1, h4, rfl⟩ := hc
     exact hcell k' q c1 h2 (fun e => absurd e h1) (hR.rt.cell k' r1 h3 q c1 h4)
   ·have hmem : ∀ k' r1, k' ≠ L → st.root k' = some r1 → r1.mem = true → (g.takeN k1 p1 q1 L).o ((g.takeN k1 p1 q1 L).ad k' []).1 = .box k' ∧ (∃ cs e, w.heap[((g.takeN k1 p1 q1 L).ad k' []).1]? = some (.cells cs e (0, 0))) ∧
      ∀ q, q < r1.row.length → w.cell? (cellAddr ((g.takeN k1 p1 q1 L).ad k' []) q) = some ((g.takeN k1 p1 q1 L).cv k' [] q) := fun k' r1 h1 h2 h3 => by
     obtain ⟨m1, m2, m3⟩ := hR.rt.mem k' r1 h2 h3
     rw [takeN_ad h1]
     refine ⟨takeN_box h1 m1, m2, fun q hq => ?_⟩
     rw [takeN_cv h1]
     exact m3 q hq
    rcases hroot k' r' hk' with ⟨rfl, rfl⟩ | ⟨rfl, rfl⟩ | ⟨h1, h2, r1, h3, rfl⟩
    ·obtain ⟨m1, m2, m3⟩ := hmem k' r hne hk hm
     exact ⟨m1, m2, fun q hq => m3 q (by rw [setRow_length hset, List.length_map] at hq; exact hq)⟩
    ·cases hm
    ·obtain ⟨m1, m2, m3⟩ := hmem k' r1 h2 h3 hm
     exact ⟨m1, m2, fun q hq => m3 q (by simpa [Rt.kill] using hq)⟩
   ·have hk0 := hR.ks
    refine ⟨hk0.os, hk0.tape, hk0.output, hk0.size, fun b hb hx => ?_, fun b hb => ?_, fun b hb hx => ?_, ⟨fun q => ?_, ?_⟩, fun b hb => ?_⟩
    ·obtain ⟨h1, h2⟩ := hk0.block b hb hx
     refine ⟨h1, ?_⟩
     rcases hx with hx | hx <;> simp [Gh.takeN, h2, hx]
    ·simp [Gh.takeN, hk0.fresh b hb]
    ·refine hk0.old b hb ?_
     revert hx
     simp only [Gh.takeN]
     split
     ·split
      ·split
       ·simp
       ·split <;> simp
      ·split <;> simp
     ·split <;> simp
     ·exact fun h => h
    ·rw [takeN_cv hK1]; exact hk0.pin.1 q
    ·rw [takeN_ad hB1]; exact hk0.pin.2
    ·revert hb
     simp only [Gh.takeN]
     split
     ·split
      ·split
       ·simp
       ·split <;> simp
      ·split <;> simp
     ·rename_i k' hb0
      split
      ·simp
      ·intro hb
       simp only [Tag.box.injEq] at hb
       subst hb
       exact hk0.nobox b hb0
     ·rename_i h1 h2
      intro hb
      exact hk0.nobox b hb
  ·cases ht
 ·cases ht
theorem TL.takeN {ops : Array Oper} {l : List Oper} {st' : St} {Q : St → Prop} (k1 : Nat) (p1 : List (Nat × Nat)) (q1 L : Nat) (ht : st.takeN k1 p1 q1 L = some st') (hc : TL P w0 g0 ops l st' Q) (hne : k1 ≠ L := by decide) (hL : L < 1000000 := by decide) : TL P w0 g0 ops l st Q := fun a w g hR Q' hQ => by
 obtain ⟨g1, h1⟩ := hR.takeN ht hne hL
 exact hc a w g1 h1 Q' hQ
theorem TC.takeN {c : Code} {st' : St} {Q : Exit → St → Prop} (k1 : Nat) (p1 : List (Nat × Nat)) (q1 L : Nat) (ht : st.takeN k1 p1 q1 L = some st') (hc : TC P w0 g0 c st' Q) (hne : k1 ≠ L := by decide) (hL : L < 1000000 := by decide) : TC P w0 g0 c st Q := fun a w g hR => by
 obtain ⟨g1, h1⟩ := hR.takeN ht hne hL
 exact hc a w g1 h1
end
end Go.Proofs.Ytcmoifejjodgcaa.T
namespace Go.Proofs.Ytcmoifejjodgcaa.T
open Go
set_option linter.unusedVariables false
set_option linter.unusedSimpArgs false
def Fun2W (Cd : World → Prop) (P : Program) (f : FuncId) (h : Hand) (pts : List TS) (R : List D → Res → Prop) : Prop :=
 ∀ (w : World) (g : Gh) (args : Array Value) (k : Nat), (∀ w', Kept w g w' → Cd w') → k < 1000000 → Handed w g h → args.size = pts.length → (∀ (i : Nat) t u, pts[i]? = some t → args[i]? = some u → RepS w g t u) →
  Calls P f args w fun e w' => ∃ v row' r g', e = .returned v ∧ R row' r ∧ Gives2 w g h k row' r v w' g'
section
variable {P : Program} {w0 : World} {g0 : Gh} {st : St} {a : Act} {w w' : World} {g g' : Gh}
theorem Fun2W.of {Cd : World → Prop} {f : FuncId} {fn : Func} {c : Code} {h : Hand} {pts : List TS} {R : List D → Res → Prop} (hf : P.funcs[f]? = some fn) (hb : fn.body = some c) (hn : pts.length ≤ fn.ntmps)
  (hw : ∀ w g0, (∀ w', Kept w g0 w' → Cd w') → TC P w g0 c ⟨pts ++ List.replicate (fn.ntmps - pts.length) (.one .dead), [(h.k, ⟨h.mem, h.row.map C.own⟩)]⟩ (Ends2 P fn h R)) : Fun2W Cd P f h pts R := by
 intro w g args k hC hk hH hsz hargs
 have hroot : ∀ k' r, (⟨pts ++ List.replicate (fn.ntmps - pts.length) (.one .dead), [(h.k, ⟨h.mem, h.row.map C.own⟩)]⟩ : St).root k' = some r → k' = h.k ∧ r = ⟨h.mem, h.row.map C.own⟩ := fun k' r hr => by
  simp only [St.root, List.find?_cons, List.find?_nil] at hr
  split at hr
  ·rename_i e
   simp only [Option.map_some, Option.some.injEq] at hr
   exact ⟨(by simpa using e : h.k = k').symm, hr.symm⟩
  ·cases hr
 refine calls_of_wp hf hb (wp_mono (hw w g hC _ w g ⟨fun i tv hi => ?_, ?_, rfl, ⟨fun k' r hk' q c hq => ?_, fun k' r hk' hm => ?_⟩, ⟨rfl, rfl, rfl, Nat.le_refl _, fun b hb _ => ⟨rfl, rfl⟩, fun b hb => hH.out b hb, fun b hb ho => ?_, ⟨fun _ => rfl, rfl⟩, hH.nobox⟩⟩) fun e a w' ⟨st, g', hE, hR⟩ => ?_)
 ·by_cases hlt : i < pts.length
  ·rw [List.getElem?_append_left hlt] at hi
   have hi' : i < args.size := by omega
   have h1 : (args ++ Array.replicate (fn.ntmps - args.size) undef).getD i undef = args[i] := by
    rw [Array.getD_eq_getD_getElem?, Array.getElem?_append_left hi', Array.getElem?_eq_getElem hi']
    rfl
   show RepS w g tv ((args ++ Array.replicate (fn.ntmps - args.size) undef).getD i undef)
   rw [h1]
   exact hargs i tv _ hi (Array.getElem?_eq_getElem hi')
  ·rw [List.getElem?_append_right (by omega), List.getElem?_replicate] at hi
   split at hi
   ·simp only [Option.some.injEq] at hi
    subst hi
    exact .one _ _ (.dead _)
   ·cases hi
 ·show (args ++ Array.replicate (fn.ntmps - args.size) undef).size = _
  simp [hsz]
 ·obtain ⟨rfl, rfl⟩ := hroot k' r hk'
  rw [List.getElem?_map, Option.map_eq_some_iff] at hq
  obtain ⟨d, hq, rfl⟩ := hq
  exact hH.row q d hq
 ·obtain ⟨rfl, rfl⟩ := hroot k' r hk'
  have hm' : h.mem = true := hm
  have hK : h.k = pinB := by simp [Hand.k, hm']
  rw [hK]
  obtain ⟨m1, m2, m3⟩ := hH.mem hm'
  exact ⟨m1, m2, fun q hq => m3 q (by simpa using hq)⟩
 ·rcases hH.own b hb with h1 | h1
  ·rw [h1] at ho; cases ho
  ·rw [ho] at h1; cases h1
 ·obtain ⟨he, rvs, tvs, row, row', h1, h2, h3, h4, h5, h6, h7, h8, h9⟩ := hE
  have hkK : k ≠ h.k := by have := h.big; omega
  have hlen : rvs.length = tvs.length := by
   have := congrArg List.length h3
   simpa using this
  obtain ⟨us, hul, hur, hrep0⟩ := hR.resultList h3
  have hrun := run_results (P := P) h1 h2 a.tmps w' hul hur
  have hrep : ∀ (i : Nat) t u, tvs[i]? = some t → us[i]? = some u → RepT w' (g'.gather2 (tvs.flatMap refV) k h.k) (gathV (tvs.flatMap refV) k t) u := fun i t u hi hu => gathV_rep2 hkK (hrep0 i t u hi hu)
  have hval : RepS w' (g'.gather2 (tvs.flatMap refV) k h.k) (resT (tvs.map (gathV (tvs.flatMap refV) k))) (tupV us) := by
   have htup : ∀ l : List Value, l.length = tvs.length → (∀ (i : Nat) t u, tvs[i]? = some t → l[i]? = some u → RepT w' (g'.gather2 (tvs.flatMap refV) k h.k) (gathV (tvs.flatMap refV) k t) u) →
     RepS w' (g'.gather2 (tvs.flatMap refV) k h.k) (.tup (tvs.map (gathV (tvs.flatMap refV) k))) (.tuple l.toArray) := fun l hl hh =>
    .tup _ _ (by simp [hl]) fun j t u hj hu => by
     rw [List.getElem?_map, Option.map_eq_some_iff] at hj
     obtain ⟨t', hj, rfl⟩ := hj
     exact hh j t' u hj (by simpa using hu)
   have hl := htup us (by omega) hrep
   have hlu : us.length = tvs.length := by omega
   clear hrun hur hrep0 h3 h5 h9 h8 h4
   match us, tvs, hlu with
   | [], [], _ => exact hl
   | [t], [tv], _ => exact .one _ _ (hrep 0 tv _ rfl rfl)
   | _ :: _ :: _, _ :: _ :: _, _ => exact hl
  have hG := hR.gives2 hH h4 h5 h6 h7 h8 hk (T := fun k => resT (tvs.map (gathV (tvs.flatMap refV) k))) hval
  have hfin : ∃ v, (results fn a.tmps).run P w' = .ok v w' ∧ ∃ v_1 row'_1 r g', Ending.returned v = Ending.returned v_1 ∧ R row'_1 r ∧ Gives2 w g h k row'_1 r v_1 w' g' := ⟨_, hrun, _, _, _, _, rfl, h9, hG⟩
  rcases he with rfl | rfl
  ·exact ⟨hR.df, hfin⟩
  ·exact ⟨hR.df, hfin⟩
theorem TX.takeN {ops : Array Oper} {l : List (Nat × Bool)} {st' : St} {Q : St → Prop} (k1 : Nat) (p1 : List (Nat × Nat)) (q1 L : Nat) (ht : st.takeN k1 p1 q1 L = some st') (hc : TX P w0 g0 ops l st' Q) (hne : k1 ≠ L := by decide) (hL : L < 1000000 := by decide) : TX P w0 g0 ops l st Q := fun listed hs he a w g hR Q' hQ => by
 obtain ⟨g1, h1⟩ := hR.takeN ht hne hL
 exact hc listed hs he a w g1 h1 Q' hQ
end
end Go.Proofs.Ytcmoifejjodgcaa.T
namespace Go.Proofs.Ytcmoifejjodgcaa.T
open Go
theorem nso : type_of% (And.intro @bne_iff_ne.{0} (And.intro @bne_eq_false_iff_eq.{0} (And.intro @beq_iff_eq.{0} (And.intro @beq_eq_false_iff_ne.{0} (And.intro @ne_eq.{1} (And.intro @Bool.not_eq_true' (And.intro @Bool.not_eq_false' (And.intro @Bool.or_eq_true (And.intro @Bool.and_eq_true (And.intro @Bool.or_eq_false_iff (And.intro @Bool.and_eq_false_iff (And.intro @decide_eq_true_eq @decide_eq_false_iff_not)))))))))))) := ⟨@bne_iff_ne.{0}, @bne_eq_false_iff_eq.{0}, @beq_iff_eq.{0}, @beq_eq_false_iff_ne.{0}, @ne_eq.{1}, @Bool.not_eq_true', @Bool.not_eq_false', @Bool.or_eq_true, @Bool.and_eq_true, @Bool.or_eq_false_iff, @Bool.and_eq_false_iff, @decide_eq_true_eq, @decide_eq_false_iff_not⟩
theorem npf : type_of% (And.intro @List.getElem_toArray.{0} (And.intro @List.getElem_cons_succ.{0} (And.intro @List.getElem_cons_zero.{0} @Nat.zero_add))) := ⟨@List.getElem_toArray.{0}, @List.getElem_cons_succ.{0}, @List.getElem_cons_zero.{0}, @Nat.zero_add⟩
theorem Val.addO {P : Program} {w0 : World} {g0 : Gh} {o : Oper} {st : St} {ty ty' : TypeId} {x y : Operand} {a b : Int} (ho : o.op = .binOp .add ty x y ty') (hx : T.opd 0 st x = some (I a)) (hy : T.opd 0 st y = some (I b)) (h1 : -9223372036854775808 ≤ a + b := by first | omega | (simp only [List.length_map]; omega)) (h2 : a + b ≤ 9223372036854775807 := by first | omega | (simp only [List.length_map]; omega)) : Val P w0 g0 o st (I (a + b)) := Val.add ho hx hy h1 h2
theorem TL.fld {P : Program} {w0 : World} {g0 : Gh} {st : St} {ops : Array Oper} {o : Oper} {rest : List Oper} {st' : St} {Q : St → Prop} {t : TS} (hq : TL P w0 g0 ops rest st' Q) (hg : o.guard = none := by exact rfl) (h : Val P w0 g0 o st t := by first | exact Val.field rfl rfl rfl | exact Val.fieldC rfl rfl rfl) (hp : st.put o.dst t = st' := by simp only [nput, npf, Nat.reduceAdd]; rfl) : TL P w0 g0 ops (o :: rest) st Q := TL.valE hg h hp hq
theorem TL.ld {P : Program} {w0 : World} {g0 : Gh} {st : St} {ops : Array Oper} {o : Oper} {rest : List Oper} {st' : St} {Q : St → Prop} {t : TS} (hq : TL P w0 g0 ops rest st' Q) (hg : o.guard = none := by exact rfl) (h : Val P w0 g0 o st t := by first | exact Val.load rfl rfl rfl rfl rfl | exact Val.loadC rfl rfl rfl) (hp : st.put o.dst t = st' := by simp only [nput, valC]; rfl) : TL P w0 g0 ops (o :: rest) st Q := TL.valE hg h hp hq
theorem Can.tos {l l' : List TS} {rs rs' : List (Nat × Rt)} (hr : LessR ⟨l, rs⟩ rs') (h : LessT l l' := by repeat first | exact LessT.nil | refine LessT.drop ?_ | refine LessT.keep ?_ | refine LessT.eq (by first | rfl | (simp; done) | simp_all) ?_) : Can ⟨l, rs⟩ ⟨l', rs'⟩ := Can.to h hr
theorem Can.too {l l' : List TS} {rs rs' : List (Nat × Rt)} (hr : LessR ⟨l, rs⟩ rs') (h : LessT l l' := by repeat first | exact LessT.nil | refine LessT.drop ?_ | refine LessT.keep ?_ | refine LessT.eq (by first | rfl | (simp; done) | (simp; omega) | simp_all) ?_) : Can ⟨l, rs⟩ ⟨l', rs'⟩ := Can.to h hr
end Go.Proofs.Ytcmoifejjodgcaa.T

