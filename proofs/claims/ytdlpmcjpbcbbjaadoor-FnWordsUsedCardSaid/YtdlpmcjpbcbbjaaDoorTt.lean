/- The lifted walk, part t: calls by contracts of usual forms; small rules that the printed walks use. No condition. -/
import Derived.Test.YtdlpmcjpbcbbjaaDoorTs
namespace Go.Proofs.YtdlpmcjpbcbbjaaDoor.T
open Go
set_option linter.unusedVariables false
set_option linter.unusedSimpArgs false

/-- A plain result; a list as result. -/
abbrev RV (x : Value) : Res → Prop := fun r => r = ⟨[], fun _ => V x⟩
abbrev RL (sz : Nat) (ds : List D) : Res → Prop := fun r => r = ⟨[.sl sz ds], fun k => .one (.c (.ref ⟨k, [], 0⟩))⟩
/-- A list that is read only. -/
abbrev L (sz : Nat) (ds : List D) : TS := .one (.c (.ro (.sl sz ds)))
/-- A struct of plain cells and lists that is read only. -/
abbrev A (ds : List D) : TS := .one (.agg (ds.map C.ro))

/-- A list that is filled from the front. -/
def fill {α : Type} (f : α → D) (z : D) (xs : List α) (k : Nat) : List D := (xs.take k).map f ++ List.replicate (xs.length - k) z
section
variable {α : Type} {f : α → D} {z : D} {xs : List α} {k : Nat}
theorem fill_zero : List.replicate xs.length z = fill f z xs 0 := by simp [fill]
theorem fill_len : (fill f z xs k).length = xs.length := by simp [fill]; omega
theorem fill_get (h : k < xs.length) : (fill f z xs k)[k]? = some z := by
  unfold fill
  rw [List.getElem?_append_right (by simp; omega)]
  simp [List.getElem?_replicate]
  omega
theorem fill_set {x : α} (hx : xs[k]? = some x) : (fill f z xs k).set k (f x) = fill f z xs (k + 1) := by
  have h := (List.getElem?_eq_some_iff.1 hx).1
  unfold fill
  rw [List.set_append_right _ _ (by simp; omega)]
  have h1 : xs.length - k = (xs.length - (k + 1)) + 1 := by omega
  have h2 : k - ((xs.take k).map f).length = 0 := by simp; omega
  rw [h2, h1, List.replicate_succ, List.set_cons_zero, List.take_add_one, hx]
  simp
theorem fill_all (h : xs.length ≤ k) : fill f z xs k = xs.map f := by
  unfold fill
  rw [List.take_of_length_le h, Nat.sub_eq_zero_of_le h]
  simp
end

section
variable {P : Program} {w0 : World} {g0 : Gh} {st : St}

theorem Seq.normal {N : St → Prop} {Q : Exit → St → Prop} (h : N st) : Seq N Q .normal st := h

def isRoC : C → Bool
  | .ro _ => true
  | _ => false
theorem Snap.aggRo {cs : List C} (h : cs.all isRoC = true) : Snap st (.one (.agg cs)) (.one (.agg cs)) :=
  .agg cs cs rfl fun j c c' h1 h2 => by
    rw [h1] at h2
    simp only [Option.some.injEq] at h2
    subst h2
    have h3 := List.all_eq_true.1 h c (List.mem_of_getElem? h1)
    cases c with
    | ro d => exact .inl ⟨d, rfl, rfl⟩
    | _ => cases h3
theorem Snap.ownRef {pl : Pl} {d : D} (h : st.cellAt pl = some (.own d)) (hw : Whole d) : Snap st (.one (.c (.ref pl))) (.one (.c (.ro d))) := .ref pl d h hw

/-- Values that hang on no memory. -/
def freeC : C → Option Value
  | .ro (.v x) => if plain x then some x else none
  | _ => none
def freeL : List C → Option (List Value)
  | [] => some []
  | c :: l => match freeC c, freeL l with | some x, some xs => some (x :: xs) | _, _ => none
def freeV : TV → Option Value
  | .c x => freeC x
  | .agg cs => (freeL cs).map fun l => .agg l.toArray
  | _ => none
def freeT : List TV → Option (List Value)
  | [] => some []
  | c :: l => match freeV c, freeT l with | some x, some xs => some (x :: xs) | _, _ => none
def freeS : TS → Option Value
  | .one t => freeV t
  | .tup ts => (freeT ts).map fun l => .tuple l.toArray
  | _ => none

theorem freeC_inv {w : World} {g : Gh} {c : C} {x u : Value} (h : freeC c = some x) : RepV w g c u ↔ u = x := by
  cases c with
  | ro d =>
    cases d with
    | v y =>
      simp only [freeC] at h
      split at h
      · rename_i hp
        simp only [Option.some.injEq] at h
        subst h
        constructor
        · intro hr
          have hr' : Ro w g.o (.v y) u := hr
          cases hr'
          rfl
        · rintro rfl
          exact Ro.v _ hp
      · cases h
    | _ => cases h
  | _ => cases h
theorem freeL_inv {w : World} {g : Gh} : ∀ {cs : List C} {xs : List Value}, freeL cs = some xs → xs.length = cs.length ∧ ∀ us : List Value, us.length = cs.length → ((∀ (j : Nat) c u, cs[j]? = some c → us[j]? = some u → RepV w g c u) ↔ us = xs)
  | [], xs, h => by
    simp only [freeL, Option.some.injEq] at h
    subst h
    exact ⟨rfl, fun us hl => ⟨fun _ => List.eq_nil_of_length_eq_zero hl, fun _ j c u h => by simp at h⟩⟩
  | c :: cs, xs, h => by
    simp only [freeL] at h
    split at h
    · rename_i x xs' h1 h2
      simp only [Option.some.injEq] at h
      subst h
      have ih := freeL_inv (w := w) (g := g) h2
      refine ⟨by simp [ih.1], fun us hl => ?_⟩
      cases us with
      | nil => simp at hl
      | cons u us =>
        have ih2 := ih.2 us (by simpa using hl)
        constructor
        · intro hh
          have e1 := (freeC_inv h1).1 (hh 0 c u rfl rfl)
          have e2 := ih2.1 fun j c' u' hj hu => hh (j + 1) c' u' (by simpa using hj) (by simpa using hu)
          rw [e1, e2]
        · intro e j c' u' hj hu
          simp only [List.cons.injEq] at e
          cases j with
          | zero =>
            simp only [List.getElem?_cons_zero, Option.some.injEq] at hj hu
            subst hj; subst hu
            exact (freeC_inv h1).2 e.1
          | succ j => exact ih2.2 e.2 j c' u' (by simpa using hj) (by simpa using hu)
    · cases h
theorem freeV_inv {w : World} {g : Gh} {t : TV} {x u : Value} (h : freeV t = some x) : RepT w g t u ↔ u = x := by
  cases t with
  | c y => exact ⟨fun hr => by cases hr with | c _ _ hv => exact (freeC_inv h).1 hv, fun e => .c _ _ ((freeC_inv h).2 e)⟩
  | agg cs =>
    simp only [freeV, Option.map_eq_some_iff] at h
    obtain ⟨l, h, rfl⟩ := h
    have hl := freeL_inv (w := w) (g := g) h
    constructor
    · intro hr
      cases hr with
      | agg _ us hs hv =>
        have := (hl.2 us.toList (by simpa using hs)).1 fun j c u hj hu => hv j c u hj (by simpa using hu)
        rw [← this]
    · rintro rfl
      exact .agg _ _ (by simp [hl.1]) fun j c u hj hu => (hl.2 l hl.1).2 rfl j c u hj (by simpa using hu)
  | _ => cases h
theorem freeT_inv {w : World} {g : Gh} : ∀ {cs : List TV} {xs : List Value}, freeT cs = some xs → xs.length = cs.length ∧ ∀ us : List Value, us.length = cs.length → ((∀ (j : Nat) c u, cs[j]? = some c → us[j]? = some u → RepT w g c u) ↔ us = xs)
  | [], xs, h => by
    simp only [freeT, Option.some.injEq] at h
    subst h
    exact ⟨rfl, fun us hl => ⟨fun _ => List.eq_nil_of_length_eq_zero hl, fun _ j c u h => by simp at h⟩⟩
  | c :: cs, xs, h => by
    simp only [freeT] at h
    split at h
    · rename_i x xs' h1 h2
      simp only [Option.some.injEq] at h
      subst h
      have ih := freeT_inv (w := w) (g := g) h2
      refine ⟨by simp [ih.1], fun us hl => ?_⟩
      cases us with
      | nil => simp at hl
      | cons u us =>
        have ih2 := ih.2 us (by simpa using hl)
        constructor
        · intro hh
          have e1 := (freeV_inv h1).1 (hh 0 c u rfl rfl)
          have e2 := ih2.1 fun j c' u' hj hu => hh (j + 1) c' u' (by simpa using hj) (by simpa using hu)
          rw [e1, e2]
        · intro e j c' u' hj hu
          simp only [List.cons.injEq] at e
          cases j with
          | zero =>
            simp only [List.getElem?_cons_zero, Option.some.injEq] at hj hu
            subst hj; subst hu
            exact (freeV_inv h1).2 e.1
          | succ j => exact ih2.2 e.2 j c' u' (by simpa using hj) (by simpa using hu)
    · cases h
theorem freeS_inv {w : World} {g : Gh} {t : TS} {x u : Value} (h : freeS t = some x) : RepS w g t u ↔ u = x := by
  cases t with
  | one t => exact ⟨fun hr => by cases hr with | one _ _ hv => exact (freeV_inv h).1 hv, fun e => .one _ _ ((freeV_inv h).2 e)⟩
  | tup cs =>
    simp only [freeS, Option.map_eq_some_iff] at h
    obtain ⟨l, h, rfl⟩ := h
    have hl := freeT_inv (w := w) (g := g) h
    constructor
    · intro hr
      cases hr with
      | tup _ us hs hv =>
        have := (hl.2 us.toList (by simpa using hs)).1 fun j c u hj hu => hv j c u hj (by simpa using hu)
        rw [← this]
    · rintro rfl
      exact .tup _ _ (by simp [hl.1]) fun j c u hj hu => (hl.2 l hl.1).2 rfl j c u hj (by simpa using hu)
  | _ => cases h

/-- A result that hangs on no memory. -/
abbrev RP (t : TS) : Res → Prop := fun r => r = ⟨[], fun _ => t⟩

theorem TQ.callP {ops : Array Oper} {o : Oper} {rest : List Oper} {st' : St} {Q : St → Prop} (hg : o.guard = none) {f : FuncId} {args : List Operand} {tys : Array TypeId} {fn : Func}
    (ho : o.op = .call { callee := .value (.func f), args := args.toArray, argTypes := tys }) (hf : P.funcs[f]? = some fn) (hb : fn.body.isNone = false)
    (hn : (fn.name == "runtime.NumGoroutine") = false) {ts ts' : List TS} (hx : opds st args = some ts) {t : TS} {x : Value} (hc : FunK P w0 g0 f ts' (RP t)) (hs : Snaps st ts ts') (hp : freeS t = some x)
    (hpt : st.put o.dst t = st') (hq : TQ P w0 g0 ops rest st' Q) : TQ P w0 g0 ops (o :: rest) st Q := fun a w g hR Q' hQ => by
  refine wpQuiet_step fun K hK => ?_
  rw [if_pos (by simp [Region.wanted, hg])]
  refine ⟨x, fun w' hw' => ?_, hK _ (hq _ _ _ (hpt ▸ hR.put ((freeS_inv hp).2 rfl) o.dst) Q' hQ)⟩
  have hR' := hR.later hw'
  have h1 := hR'.opds hx
  have h2 := hs.get
  have hcall := hc w' hR'.ks.kept { g with o := allRo w' } (args.map a.eval).toArray 0 rfl (by simp [h1.1, h2.1]) (fun i t' u hi hu => by
    obtain ⟨t, h3, h4⟩ := h2.2 i t' hi
    exact hR'.snap h4 (h1.2 i t u h3 (by simpa using hu)) _ rfl)
  unfold Oper.quietAt
  have hrun : (execOp a.eval o).run P w' = .ok (.enter f (args.map a.eval).toArray) w' := by
    have he : a.eval (.func f) = .func (.func f) #[] #[] := rfl
    have hn' : ¬ fn.name = "runtime.NumGoroutine" := by simpa using hn
    have hb' : ¬ fn.body = none := fun e => by rw [e] at hb; cases hb
    simp [execOp, ho, resolve, he, Deferred.ofValue, invoke, callFunc, hf, hn', hb']
  rw [hrun]
  refine ⟨rfl, hcall.mono fun e w'' ⟨v, r, g', he, hR1, hG⟩ => ?_⟩
  have h5 := hG.val
  rw [hR1] at h5
  have h6 := (freeS_inv hp).1 h5
  subst h6
  exact ⟨he, hw'.trans ⟨hG.os, hG.tape, hG.output, hG.size, hG.block⟩⟩

/-- Fewer roots, root by root, each perhaps told otherwise. -/
inductive LessR (st : St) : List (Nat × Rt) → Prop
  | nil : LessR st []
  | cons {k : Nat} {r r' : Rt} {l : List (Nat × Rt)} (h : st.root k = some r) (e : r = r') (hl : LessR st l) : LessR st ((k, r') :: l)
theorem LessR.spec {st : St} {l : List (Nat × Rt)} (h : LessR st l) : ∀ x ∈ l, st.root x.1 = some x.2 := by
  induction h with
  | nil => exact fun x hx => by cases hx
  | cons h e hl ih =>
    intro x hx
    rcases List.mem_cons.1 hx with rfl | hx
    · rw [← e]; exact h
    · exact ih x hx
theorem Can.to {l l' : List TS} {rs rs' : List (Nat × Rt)} (h : LessT l l') (hr : LessR ⟨l, rs⟩ rs') : Can ⟨l, rs⟩ ⟨l', rs'⟩ := Can.less (Less.of h hr.spec) (Can.refl _)

/-- Behind a call whose result is hangs on no memory. -/
theorem TL.callP {ops : Array Oper} {o : Oper} {rest : List Oper} {st' : St} {Q : St → Prop} (hg : o.guard = none) {f : FuncId} {args : List Operand} {tys : Array TypeId} {fn : Func}
    (ho : o.op = .call { callee := .value (.func f), args := args.toArray, argTypes := tys }) (hf : P.funcs[f]? = some fn) (hb : fn.body.isNone = false)
    (hn : (fn.name == "runtime.NumGoroutine") = false) {ts ts' : List TS} (hx : opds st args = some ts) {t : TS} {x : Value} (hc : FunK P w0 g0 f ts' (RP t)) (hs : Snaps st ts ts') (hp : freeS t = some x)
    (hpt : st.put o.dst t = st') (hq : TL P w0 g0 ops rest st' Q) : TL P w0 g0 ops (o :: rest) st Q := by
  refine TL.op hg fun a w g hR K Q' hK => ?_
  have h1 := hR.opds hx
  have h2 := hs.get
  have hcall := hc w hR.ks.kept { g with o := allRo w } (args.map a.eval).toArray 0 rfl (by simp [h1.1, h2.1]) (fun i t' u hi hu => by
    obtain ⟨t, h3, h4⟩ := h2.2 i t' hi
    exact hR.snap h4 (h1.2 i t u h3 (by simpa using hu)) _ rfl)
  unfold Oper.wp
  have hrun : (execOp a.eval o).run P w = .ok (.enter f (args.map a.eval).toArray) w := by
    have he : a.eval (.func f) = .func (.func f) #[] #[] := rfl
    have hn' : ¬ fn.name = "runtime.NumGoroutine" := by simpa using hn
    have hb' : ¬ fn.body = none := fun e => by rw [e] at hb; cases hb
    simp [execOp, ho, resolve, he, Deferred.ofValue, invoke, callFunc, hf, hn', hb']
  rw [hrun]
  refine hcall.mono fun e w' ⟨v, r, g', he, hr, hG⟩ => ?_
  subst he
  have h5 := hG.val
  rw [hr] at h5
  have h6 := (freeS_inv hp).1 h5
  subst h6
  have hR' := hR.later (w' := w') ⟨hG.os, hG.tape, hG.output, hG.size, hG.block⟩
  exact hK _ _ _ _ hq (hpt ▸ hR'.put ((freeS_inv hp).2 rfl) o.dst)

theorem OpT.makeE {o : Oper} {Q : St → Prop} {x y : Operand} {t e : TypeId} (ho : o.op = .makeSlice t x y) {k : Nat} (hd : o.dst = some k) {n : Int} (hx : T.opd 0 st x = some (I n)) (hy : T.opd 0 st y = some (I n)) (hu : P.underlying t = some (.slice e))
    {i : TypeInfo} {z : Value} {sz : Nat} (hi : P.info? e = some i) (hz : i.zero = some z) (hsz : i.size = sz) (hby : Nat.ble i.bytes 1048576 = true) {row : List D} (hrow : zeroD P 6 e = some row)
    (hv : z.cells.toList = row.map zeroV) (hok : row.all zeroOk = true) (hrl : row.length = sz) {d : D} (hdr : d.row = row) (h0 : 0 ≤ n) (h1 : n ≤ 134217728)
    (hq : Q ((st.renew [k] k ⟨false, [.own (.sl sz (List.replicate n.toNat d))]⟩).put (some k) (.one (.c (.ref ⟨k, [], 0⟩))))) (hkp : k < 1000000 := by decide) : OpT P w0 g0 o st Q := by
  have hb := Nat.le_of_ble_eq_true hby
  refine OpT.make ho hd hx hy hu hi hz hsz rfl hrow hv hok hrl hdr h0 ?_ (by omega) hq hkp
  calc n * (i.bytes : Int) ≤ 134217728 * (i.bytes : Int) := Int.mul_le_mul_of_nonneg_right h1 (by omega)
    _ ≤ 140737488355328 := by omega

theorem OpT.appendE {o : Oper} {Q : St → Prop} {x y : Operand} {t t2 e e2 : TypeId} (ho : o.op = .call { callee := .builtin .append, args := #[x, y], argTypes := #[t, t2] }) {k : Nat} (hd : o.dst = some k) {k1 : Nat} {tv : TS} (hx : T.opd 0 st x = some (.one (.c (.ref ⟨k1, [], 0⟩))))
    {sz : Nat} (hy : T.opd sz st y = some tv) {ds ns : List D} (h1 : st.root k1 = some ⟨false, [.own (.sl sz ds)]⟩) (h2 : listOf st tv = some (sz, ns)) (hpl : ∀ d ∈ ns, isPlain d)
    (ht : P.underlying t = some (.slice e)) (ht2 : P.underlying t2 = some (.slice e2)) {i : TypeInfo} {z : Value} (hi : P.info? e = some i) (hz : i.zero = some z)
    (hsz : i.size = sz) (hby : Nat.ble i.bytes 1048576 = true) (hzs : z.cells.size = sz) (hlen : ds.length + ns.length ≤ 134217728)
    (hq : Q ((st.renew [k, k1] k ⟨false, [.own (.sl sz (ds ++ ns))]⟩).put (some k) (.one (.c (.ref ⟨k, [], 0⟩))))) (hkp : k < 1000000 := by decide) : OpT P w0 g0 o st Q := by
  have hb := Nat.le_of_ble_eq_true hby
  refine OpT.appendP ho hd hx hy h1 h2 hpl ht ht2 hi hz hsz rfl hzs (by simp only [most]; omega) ?_ hq hkp
  calc (ds.length + ns.length) * i.bytes ≤ 134217728 * i.bytes := Nat.mul_le_mul_right _ hlen
    _ ≤ 140737488355328 := by omega

/-- A call whose result is a new list. -/
theorem OpT.callL {o : Oper} {Q : St → Prop} {f : FuncId} {args : List Operand} {tys : Array TypeId} {fn : Func} (ho : o.op = .call { callee := .value (.func f), args := args.toArray, argTypes := tys }) (hf : P.funcs[f]? = some fn)
    (hb : fn.body.isNone = false) (hn : (fn.name == "runtime.NumGoroutine") = false) {k : Nat} (hd : o.dst = some k) {ts ts' : List TS} (hx : opds st args = some ts) {sz : Nat} {ds : List D} (hc : FunK P w0 g0 f ts' (RL sz ds))
    (hs : Snaps st ts ts') (hq : Q ((st.fresh k ⟨false, [.own (.sl sz ds)]⟩).put (some k) (.one (.c (.ref ⟨k, [], 0⟩))))) (hkp : k < 1000000 := by decide) : OpT P w0 g0 o st Q :=
  OpT.call ho hf hb hn hd hx hs hc (fun r hr => by subst hr; simp [okS, okV, okC]) (fun r hr => by subst hr; exact hq) hkp

end
end Go.Proofs.YtdlpmcjpbcbbjaaDoor.T
