/- The lifted walk, part f: code, lists of operations, operations that only reckon or read. No condition. -/
import Derived.Test.YtdlpmcjpbcbbjaaDoorTe
import Derived.Deep.LoopGhost
namespace Go.Proofs.YtdlpmcjpbcbbjaaDoor.T
open Go
set_option linter.unusedVariables false
set_option linter.unusedSimpArgs false

section
variable (P : Program) (w0 : World) (g0 : Gh)

def OpT (o : Oper) (st : St) (Q : St → Prop) : Prop :=
  ∀ a w g, Rel w0 g0 st a w g → ∀ (K : Act → World → Prop) (Q' : Exit → Act → World → Prop), (∀ st' a' w' g', Q st' → Rel w0 g0 st' a' w' g' → K a' w') → o.wp P a w K Q'

def TL (ops : Array Oper) (l : List Oper) (st : St) (Q : St → Prop) : Prop :=
  ∀ a w g, Rel w0 g0 st a w g → ∀ (Q' : Exit → Act → World → Prop), (∀ st' a' w' g', Q st' → Rel w0 g0 st' a' w' g' → Q' .normal a' w') → wpList P ops Q' l a w

def TC (c : Code) (st : St) (Q : Exit → St → Prop) : Prop :=
  ∀ a w g, Rel w0 g0 st a w g → c.wp P (fun e a' w' => ∃ st' g', Q e st' ∧ Rel w0 g0 st' a' w' g') a w
end

/-- A known plain value. -/
abbrev V (v : Value) : TS := .one (.c (.ro (.v v)))

def opd (z : Nat) (st : St) : Operand → Option TS
  | .tmp t => st.tmps[t]?
  | .const v => if plain v then some (V v) else match v with | .slice none 0 0 => some (.one (.c (.ro (.sl z [])))) | _ => none
  | .func f => some (.fn f [])
  | .global _ => none

section
variable {P : Program} {w0 : World} {g0 : Gh}

theorem Rel.opd {st : St} {a : Act} {w : World} {g : Gh} (h : Rel w0 g0 st a w g) {z : Nat} {x : Operand} {t : TS} (hx : opd z st x = some t) : RepS w g t (a.eval x) := by
  cases x with
  | tmp i => exact h.tm i t hx
  | const v =>
    simp only [T.opd] at hx
    split at hx
    · rename_i hp
      simp only [Option.some.injEq] at hx
      subst hx
      exact .one _ _ (.c _ _ (Ro.v v hp))
    · split at hx
      · simp only [Option.some.injEq] at hx
        subst hx
        exact .one _ _ (.c _ _ (Ro.nil z none 0))
      · cases hx
  | func f =>
    simp only [T.opd, Option.some.injEq] at hx
    subst hx
    exact .fn f [] #[] rfl (fun j t u h1 _ => by simp at h1)
  | global g => cases hx

theorem V_inv {w : World} {g : Gh} {v u : Value} (h : RepS w g (V v) u) : u = v := by
  cases h with
  | one _ _ h =>
    cases h with
    | c _ _ h =>
      have h' : Ro w g.o (.v v) u := h
      cases h'
      rfl

theorem V_mk {w : World} {g : Gh} {v : Value} (h : plain v = true) : RepS w g (V v) v := .one _ _ (.c _ _ (Ro.v v h))

theorem Rel.val {st : St} {a : Act} {w : World} {g : Gh} (h : Rel w0 g0 st a w g) {z : Nat} {x : Operand} {v : Value} (hx : T.opd z st x = some (V v)) : a.eval x = v := V_inv (h.opd hx)

/- CODE -/
theorem TC.mono {c : Code} {st : St} {Q Q' : Exit → St → Prop} (h : TC P w0 g0 c st Q) (hq : ∀ e st, Q e st → Q' e st) : TC P w0 g0 c st Q' :=
  fun a w g hR => wp_mono (h a w g hR) fun e a' w' ⟨st', g', q, r⟩ => ⟨st', g', hq _ _ q, r⟩

theorem TC.skip {st : St} {Q : Exit → St → Prop} (h : Q .normal st) : TC P w0 g0 .skip st Q := fun a w g hR => wp_skip ⟨st, g, h, hR⟩
theorem TC.exit {st : St} {Q : Exit → St → Prop} {i : Nat} (h : Q (.exit i) st) : TC P w0 g0 (.exit i) st Q := fun a w g hR => wp_exit ⟨st, g, h, hR⟩
theorem TC.ret {st : St} {Q : Exit → St → Prop} (h : Q .ret st) : TC P w0 g0 .ret st Q := fun a w g hR => wp_ret ⟨st, g, h, hR⟩

/-- What comes behind the first of two. -/
def Seq (N : St → Prop) (Q : Exit → St → Prop) : Exit → St → Prop
  | .normal, st => N st
  | e, st => Q e st
def Blk (i : Nat) (Q : Exit → St → Prop) : Exit → St → Prop
  | .exit j, st => if j = i then Q .normal st else Q (.exit j) st
  | e, st => Q e st

theorem TC.seq {x y : Code} {st : St} {Q : Exit → St → Prop} (h : TC P w0 g0 x st (Seq (fun st' => TC P w0 g0 y st' Q) Q)) : TC P w0 g0 (.seq x y) st Q :=
  fun a w g hR => wp_seq (wp_mono (h a w g hR) fun e a' w' ⟨st', g', q, r⟩ => by
    cases e with
    | normal => exact q a' w' g' r
    | _ => exact ⟨st', g', q, r⟩)

theorem TC.block {i : Nat} {c : Code} {st : St} {Q : Exit → St → Prop} (h : TC P w0 g0 c st (Blk i Q)) : TC P w0 g0 (.block i c) st Q :=
  fun a w g hR => wp_block (wp_mono (h a w g hR) fun e a' w' ⟨st', g', q, r⟩ => by
    cases e with
    | exit j =>
      simp only [Exit.inBlock]
      simp only [Blk] at q
      split
      · rename_i e; rw [if_pos e] at q; exact ⟨st', g', q, r⟩
      · rename_i e; rw [if_neg e] at q; exact ⟨st', g', q, r⟩
    | _ => exact ⟨st', g', q, r⟩)

theorem TC.cond {c : Operand} {x y : Code} {st : St} {Q : Exit → St → Prop} {b : Bool} (hc : T.opd 0 st c = some (V (.bool b))) (h1 : b = true → TC P w0 g0 x st Q) (h2 : b = false → TC P w0 g0 y st Q) :
    TC P w0 g0 (.cond c x y) st Q :=
  fun a w g hR => wp_cond_split (hR.val hc) (fun e => h1 e a w g hR) (fun e => h2 e a w g hR)

theorem TC.loop {c : Code} {st : St} {Q : Exit → St → Prop} (I : Nat → St → Prop) (n0 : Nat) (h0 : I n0 st) (round : ∀ n st, I n st → TC P w0 g0 c st (Seq (fun st' => ∃ n', n' < n ∧ I n' st') Q)) :
    TC P w0 g0 (.loop c) st Q :=
  fun a w g hR => wp_loop_ghost (fun n a w => ∃ st g, I n st ∧ Rel w0 g0 st a w g) n0 ⟨st, g, h0, hR⟩ fun n a w ⟨st, g, hI, hR⟩ =>
    wp_mono (round n st hI a w g hR) fun e a' w' ⟨st', g', q, r⟩ => by
      cases e with
      | normal =>
        obtain ⟨n', hn, hI'⟩ := q
        exact ⟨n', hn, st', g', hI', r⟩
      | _ => exact ⟨st', g', q, r⟩

theorem TC.region {i : Nat} {ops : Array Oper} {st : St} {Q : Exit → St → Prop} (h : TL P w0 g0 ops ops.toList st (fun st' => Q .normal st')) : TC P w0 g0 (.region i ops false) st Q :=
  fun a w g hR => wp_region_list (h a w g hR _ fun st' a' w' g' q r => ⟨st', g', q, r⟩)

theorem TL.nil {ops : Array Oper} {st : St} {Q : St → Prop} (h : Q st) : TL P w0 g0 ops [] st Q := fun a w g hR Q' hQ => hQ st a w g h hR

theorem TL.op {ops : Array Oper} {o : Oper} {rest : List Oper} {st : St} {Q : St → Prop} (hg : o.guard = none) (h : OpT P w0 g0 o st (fun st' => TL P w0 g0 ops rest st' Q)) :
    TL P w0 g0 ops (o :: rest) st Q :=
  fun a w g hR Q' hQ => wpList_plain hg fun K hK => h a w g hR K Q' fun st' a' w' g' q r => hK _ _ (q a' w' g' r Q' hQ)

/-- The slot of the operation that an operation's guard names. -/
def guardOf (ops : Array Oper) (st : St) (j : Nat) : Option TS := ((ops[j]?).bind (·.dst)).bind (st.tmps[·]?)

theorem yielded_of {ops : Array Oper} {st : St} {a : Act} {w : World} {g : Gh} (hR : Rel w0 g0 st a w g) {j : Nat} {b : Bool} (h : guardOf ops st j = some (V (.bool b))) : yielded ops a.tmps j = some b := by
  unfold guardOf at h
  unfold yielded
  cases hd : (ops[j]?).bind (·.dst) with
  | none => rw [hd] at h; cases h
  | some d =>
    rw [hd] at h
    simp only [Option.bind_some] at h ⊢
    have h1 := V_inv (hR.tm d _ h)
    have hlt : d < a.tmps.size := by
      rw [hR.sz]
      exact (List.getElem?_eq_some_iff.1 h).1
    have h2 : a.tmps[d]? = some (.bool b) := by
      rw [Array.getD_eq_getD_getElem?] at h1
      rw [Array.getElem?_eq_getElem hlt] at h1 ⊢
      simpa using h1
    rw [h2]

theorem TL.guard_yes {ops : Array Oper} {o : Oper} {rest : List Oper} {st : St} {Q : St → Prop} {j : Nat} {want b : Bool} (hg : o.guard = some (j, want)) (hb : guardOf ops st j = some (V (.bool b)))
    (he : b = want) (h : OpT P w0 g0 o st (fun st' => TL P w0 g0 ops rest st' Q)) : TL P w0 g0 ops (o :: rest) st Q :=
  fun a w g hR Q' hQ => wpList_step fun K hK => by
    have hw : Region.wanted o (yielded ops a.tmps) = true := by simp [Region.wanted, hg, yielded_of hR hb, he]
    rw [if_pos hw]
    exact h a w g hR K Q' fun st' a' w' g' q r => hK _ _ (q a' w' g' r Q' hQ)

theorem TL.guard_no {ops : Array Oper} {o : Oper} {rest : List Oper} {st : St} {Q : St → Prop} {j : Nat} {want b : Bool} (hg : o.guard = some (j, want)) (hb : guardOf ops st j = some (V (.bool b)))
    (he : b = !want) (h : TL P w0 g0 ops rest (st.put o.dst (.one .dead)) Q) : TL P w0 g0 ops (o :: rest) st Q :=
  fun a w g hR Q' hQ => wpList_step fun K hK => by
    have hw : ¬ Region.wanted o (yielded ops a.tmps) = true := by simp [Region.wanted, hg, yielded_of hR hb, he]
    rw [if_neg hw]
    exact hK _ _ (h _ _ _ (hR.put (.one _ _ (.dead _)) o.dst) Q' hQ)

/- OPERATIONS THAT LEAVE THE WORLD ALONE: the value is one and the same in every world that has the old blocks as they are -/
def Ext (w w' : World) : Prop := ∀ b, b < w.heap.size → w'.heap[b]? = w.heap[b]?
theorem Ext.refl (w : World) : Ext w w := fun _ _ => rfl
theorem Ext.cell {w w' : World} (h : Ext w w') {A : Addr} {v : Value} (hc : w.cell? A = some v) : w'.cell? A = some v := by
  have := h A.block (World.block_lt_of_cell? w A hc)
  rw [World.cell?_of_block this]
  exact hc

def Val (P : Program) (w0 : World) (g0 : Gh) (o : Oper) (st : St) (t : TS) : Prop :=
  ∀ a w g, Rel w0 g0 st a w g → ∃ v, (∀ w', Ext w w' → (execOp a.eval o).run P w' = .ok (.value v) w') ∧ RepS w g t v

theorem OpT.val {o : Oper} {st : St} {Q : St → Prop} {t : TS} (h : Val P w0 g0 o st t) (hq : Q (st.put o.dst t)) : OpT P w0 g0 o st Q := fun a w g hR K Q' hK => by
  obtain ⟨v, hr, hv⟩ := h a w g hR
  unfold Oper.wp
  rw [hr w (Ext.refl w)]
  exact hK _ _ _ _ hq (hR.put hv o.dst)

section
variable {o : Oper} {st : St} {x y : Operand} {ty ty' : TypeId}

theorem Val.move {t : TS} (z : Nat) (ho : o.op = .move x) (hx : T.opd z st x = some t) : Val P w0 g0 o st t :=
  fun a w g hR => ⟨a.eval x, fun w' _ => by simp [execOp, ho], hR.opd hx⟩
theorem Val.assign {t : TS} (z : Nat) (ho : o.op = .assign x) (hx : T.opd z st x = some t) : Val P w0 g0 o st t :=
  fun a w g hR => ⟨a.eval x, fun w' _ => by simp [execOp, ho], hR.opd hx⟩

theorem Val.bin {op : BinOp} {vx vy r : Value} (ho : o.op = .binOp op ty x y ty') (hx : T.opd 0 st x = some (V vx)) (hy : T.opd 0 st y = some (V vy))
    (hp : plain vx = true) (hr : ∀ w, (binOp op ty vx vy).run P w = .ok r w) (hpr : plain r = true) : Val P w0 g0 o st (V r) :=
  fun a w g hR => ⟨r, fun w' _ => by
    have hgd : eqGuard op ty x y vx vy = pure () := by
      cases vx with
      | bool b => cases op <;> rfl
      | int k n => cases op <;> rfl
      | string s => cases op <;> rfl
      | _ => cases hp
    simp [execOp, ho, hR.val hx, hR.val hy, hgd, hr w'], V_mk hpr⟩

theorem Val.not {b : Bool} (ho : o.op = .unOp .not ty x) (hx : T.opd 0 st x = some (V (.bool b))) : Val P w0 g0 o st (V (.bool (!b))) :=
  fun a w g hR => ⟨.bool (!b), fun w' _ => by simp [execOp, ho, hR.val hx, Op.unary], V_mk rfl⟩

theorem Val.pick {c : Operand} {b : Bool} {t : TS} (ho : o.op = .pick c x y) (hc : T.opd 0 st c = some (V (.bool b))) (hx : T.opd 0 st (if b then x else y) = some t) : Val P w0 g0 o st t :=
  fun a w g hR => ⟨a.eval (if b then x else y), fun w' _ => by cases b <;> simp [execOp, ho, hR.val hc, asBool], hR.opd hx⟩

theorem Val.extract {i : Nat} {ts : List TV} {t : TV} (ho : o.op = .extract x i) (hx : T.opd 0 st x = some (.tup ts)) (hi : ts[i]? = some t) : Val P w0 g0 o st (.one t) :=
  fun a w g hR => by
    have := hR.opd hx
    generalize hv : a.eval x = v at this
    cases this with
    | tup ts us hs h =>
      have hlt : i < us.size := by rw [hs]; exact (List.getElem?_eq_some_iff.1 hi).1
      refine ⟨us[i], fun w' _ => ?_, .one _ _ (h i t _ hi (Array.getElem?_eq_getElem hlt))⟩
      simp [execOp, ho, hv, Instr.extract, Array.getElem?_eq_getElem hlt]

end

/- int, int64, bool, string -/
abbrev I (n : Int) : TS := V (.int .i64 n)
abbrev B (b : Bool) : TS := V (.bool b)

theorem wrap_i64 {n : Int} (h1 : -9223372036854775808 ≤ n) (h2 : n ≤ 9223372036854775807) : IntKind.i64.wrap n = n := by
  by_cases h : n % 2 ^ 64 ≥ 2 ^ (64 - 1)
  · simp only [IntKind.wrap, IntKind.signed, IntKind.bits, h, decide_true, Bool.and_self, if_true]
    omega
  · simp only [IntKind.wrap, IntKind.signed, IntKind.bits, h, decide_false, Bool.and_false, Bool.false_eq_true, if_false]
    omega

section
variable {o : Oper} {st : St} {ty ty' : TypeId} {x y : Operand} {k : IntKind} {a b : Int}
theorem Val.lss (ho : o.op = .binOp .lss ty x y ty') (hx : T.opd 0 st x = some (V (.int k a))) (hy : T.opd 0 st y = some (V (.int k b))) : Val P w0 g0 o st (B (decide (a < b))) :=
  Val.bin ho hx hy rfl (fun w => by rw [binOp_lss]; rfl) rfl
theorem Val.leq (ho : o.op = .binOp .leq ty x y ty') (hx : T.opd 0 st x = some (V (.int k a))) (hy : T.opd 0 st y = some (V (.int k b))) : Val P w0 g0 o st (B (decide (a ≤ b))) :=
  Val.bin ho hx hy rfl (fun w => by rw [binOp_leq]; rfl) rfl
theorem Val.gtr (ho : o.op = .binOp .gtr ty x y ty') (hx : T.opd 0 st x = some (V (.int k a))) (hy : T.opd 0 st y = some (V (.int k b))) : Val P w0 g0 o st (B (decide (b < a))) :=
  Val.bin ho hx hy rfl (fun w => by rw [binOp_gtr]; rfl) rfl
theorem Val.geq (ho : o.op = .binOp .geq ty x y ty') (hx : T.opd 0 st x = some (V (.int k a))) (hy : T.opd 0 st y = some (V (.int k b))) : Val P w0 g0 o st (B (decide (b ≤ a))) :=
  Val.bin ho hx hy rfl (fun w => by rw [binOp_geq]; rfl) rfl
theorem Val.eql (ho : o.op = .binOp .eql ty x y ty') (hx : T.opd 0 st x = some (V (.int k a))) (hy : T.opd 0 st y = some (V (.int k b))) : Val P w0 g0 o st (B (a == b)) :=
  Val.bin ho hx hy rfl (fun w => by rw [binOp_eql]; rfl) rfl
theorem Val.neq (ho : o.op = .binOp .neq ty x y ty') (hx : T.opd 0 st x = some (V (.int k a))) (hy : T.opd 0 st y = some (V (.int k b))) : Val P w0 g0 o st (B (a != b)) :=
  Val.bin ho hx hy rfl (fun w => by rw [binOp_neq]; rfl) rfl
theorem Val.add (ho : o.op = .binOp .add ty x y ty') (hx : T.opd 0 st x = some (I a)) (hy : T.opd 0 st y = some (I b)) (h1 : -9223372036854775808 ≤ a + b) (h2 : a + b ≤ 9223372036854775807) : Val P w0 g0 o st (I (a + b)) :=
  Val.bin ho hx hy rfl (fun w => by rw [binOp_add]; simp only [Op.intArith]; rw [wrap_i64 h1 h2]; rfl) rfl
theorem Val.sub (ho : o.op = .binOp .sub ty x y ty') (hx : T.opd 0 st x = some (I a)) (hy : T.opd 0 st y = some (I b)) (h1 : -9223372036854775808 ≤ a - b) (h2 : a - b ≤ 9223372036854775807) : Val P w0 g0 o st (I (a - b)) :=
  Val.bin ho hx hy rfl (fun w => by rw [binOp_sub]; simp only [Op.intArith]; rw [wrap_i64 h1 h2]; rfl) rfl
theorem Val.eqlB {a b : Bool} (ho : o.op = .binOp .eql ty x y ty') (hx : T.opd 0 st x = some (B a)) (hy : T.opd 0 st y = some (B b)) (ht : P.underlying ty = some .bool) : Val P w0 g0 o st (B (a == b)) :=
  Val.bin ho hx hy rfl (fun w => by simp [binOp, Op.equal, Op.maxDepth, run_equalIn_bool' _ _ _ _ _ ht]) rfl
theorem Val.neqB {a b : Bool} (ho : o.op = .binOp .neq ty x y ty') (hx : T.opd 0 st x = some (B a)) (hy : T.opd 0 st y = some (B b)) (ht : P.underlying ty = some .bool) : Val P w0 g0 o st (B (!(a == b))) :=
  Val.bin ho hx hy rfl (fun w => by simp [binOp, Op.equal, Op.maxDepth, run_equalIn_bool' _ _ _ _ _ ht]) rfl
theorem Val.neqS {a b : ByteArray} (ho : o.op = .binOp .neq ty x y ty') (hx : T.opd 0 st x = some (V (.string a))) (hy : T.opd 0 st y = some (V (.string b))) : Val P w0 g0 o st (B !(a.toList == b.toList)) :=
  Val.bin ho hx hy rfl (fun w => by rw [binOp_string_neq]; rfl) rfl
theorem Val.eqlS {a b : ByteArray} (ho : o.op = .binOp .eql ty x y ty') (hx : T.opd 0 st x = some (V (.string a))) (hy : T.opd 0 st y = some (V (.string b))) : Val P w0 g0 o st (B (a.toList == b.toList)) :=
  Val.bin ho hx hy rfl (fun w => by rw [binOp_string_eql]; rfl) rfl
end

end
end Go.Proofs.YtdlpmcjpbcbbjaaDoor.T
