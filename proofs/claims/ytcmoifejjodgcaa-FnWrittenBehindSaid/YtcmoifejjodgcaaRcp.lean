
import Derived.Test.YtcmoifejjodgcaaRbp
namespace Go.Proofs.Ytcmoifejjodgcaa.T
open Go
set_option linter.unusedVariables false
set_option linter.unusedSimpArgs false
section
variable {P : Program} {w0 : World} {g0 : Gh} {o : Oper} {st : St}
theorem Val.nilP {x : Operand} (ho : o.op = .nilCheck x) {pl : Pl} (hx : T.opd 0 st x = some (.one (.ptr pl))) : Val P w0 g0 o st (.one (.ptr pl)) :=
 fun a w g hR => by
  have h1 := hR.opd hx
  generalize hv : a.eval x = v at h1
  cases h1 with
  | one _ _ h1 =>
   cases h1 with
   | ptr _ => exact ⟨_, fun w' _ => by simp [execOp, ho, hv], .one _ _ (.ptr pl)⟩
theorem Val.indexA {s : ByteArray} {kd : IntKind} {i : Int} {b : UInt8} {ty : TypeId} {x y : Operand} (ho : o.op = .index ty x y) (hx : T.opd 0 st x = some (S s)) (hy : T.opd 0 st y = some (V (.int kd i))) (hu : P.underlying ty = some .string) (h0 : 0 ≤ i) (hb : s[i.toNat]? = some b) :
  Val P w0 g0 o st (V (.int .u8 b.toNat)) :=
 fun a w g hR => ⟨.int .u8 b.toNat, fun w' _ => by
  simp [execOp, ho, hR.val hx, hR.val hy, Instr.index, run_underlying hu, asIntOf, h0, hb], V_mk rfl⟩
theorem Val.fieldC1 {s : TypeId} {f : Nat} {x : Operand} {cs : List C} {fs : Array Field} {fl : Field} {c : C} (ho : o.op = .field s x f) (hx : T.opd 0 st x = some (.one (.agg cs))) (hu : P.underlying s = some (.struct fs)) (hf : fs[f]? = some fl) (ht : aggT P fl.type = some false) (hc : cs[fl.offset]? = some c) :
  Val P w0 g0 o st (.one (.c c)) := fun a w g hR => by
 have h1 := hR.opd hx
 generalize hv : a.eval x = v at h1
 cases h1 with
 | one _ _ h1 =>
  cases h1 with
  | agg _ us hs h =>
   obtain ⟨u, hu2⟩ : ∃ u, us[fl.offset]? = some u := ⟨_, Array.getElem?_eq_getElem (by rw [hs]; exact (List.getElem?_eq_some_iff.1 hc).1)⟩
   refine ⟨u, fun w' hw => ?_, .one _ _ (.c _ _ (h _ _ _ hc hu2))⟩
   simp [execOp, ho, hv, Instr.field, run_underlying hu, hf, asAgg, part, run_isAgg' ht, hu2]
theorem Val.fieldCA {s : TypeId} {f n : Nat} {x : Operand} {cs : List C} {fs : Array Field} {fl : Field} (ho : o.op = .field s x f) (hx : T.opd 0 st x = some (.one (.agg cs))) (hu : P.underlying s = some (.struct fs)) (hf : fs[f]? = some fl) (ht : aggT P fl.type = some true) (hn : sizeT P fl.type = some n) (hl : fl.offset + n ≤ cs.length) :
  Val P w0 g0 o st (.one (.agg ((cs.drop fl.offset).take n))) := fun a w g hR => by
 have h1 := hR.opd hx
 generalize hv : a.eval x = v at h1
 cases h1 with
 | one _ _ h1 =>
  cases h1 with
  | agg _ us hs h =>
   refine ⟨.agg (us.extract fl.offset (fl.offset + n)), fun w' hw => ?_, .one _ _ (.agg _ _ (by simp; omega) fun j c u hc hu2 => ?_)⟩
   ·simp [execOp, ho, hv, Instr.field, run_underlying hu, hf, asAgg, part, run_isAgg' ht, run_sizeOf' hn]
   ·rw [List.getElem?_take, List.getElem?_drop] at hc
    rw [Array.getElem?_extract] at hu2
    split at hc
    ·split at hu2
     ·exact h _ _ _ hc hu2
     ·cases hu2
    ·cases hc
theorem Val.min {t1 t2 : TypeId} {x y : Operand} {a b : Int} (ho : o.op = .call { callee := .builtin .min, args := #[x, y], argTypes := #[t1, t2] }) (hx : T.opd 0 st x = some (I a)) (hy : T.opd 0 st y = some (I b)) : Val P w0 g0 o st (I (if b < a then b else a)) :=
 fun s w g hR => ⟨.int .i64 (if b < a then b else a), fun w' _ => by simp [execOp, ho, resolve, invoke, builtin, Builtin.min_, Builtin.min2, hR.val hx, hR.val hy], V_mk rfl⟩
theorem Val.max {t1 t2 : TypeId} {x y : Operand} {a b : Int} (ho : o.op = .call { callee := .builtin .max, args := #[x, y], argTypes := #[t1, t2] }) (hx : T.opd 0 st x = some (I a)) (hy : T.opd 0 st y = some (I b)) : Val P w0 g0 o st (I (if b > a then b else a)) :=
 fun s w g hR => ⟨.int .i64 (if b > a then b else a), fun w' _ => by simp [execOp, ho, resolve, invoke, builtin, Builtin.max_, Builtin.max2, hR.val hx, hR.val hy], V_mk rfl⟩
end
def sizeW (P : Program) (t : TypeId) (k : Nat → Prop) : Prop := match P.info? t with
 | some i => oneOf i.size small k
 | none => False
theorem sizeW_of {P : Program} {t : TypeId} {k : Nat → Prop} (h : sizeW P t k) : ∃ s, sizeT P t = some s ∧ k s := by
 unfold sizeW at h
 split at h
 ·rename_i i hi
  exact ⟨i.size, by simp [sizeT, hi], oneOf_of h⟩
 ·exact h.elim
def boolW (t : TS) (k : Bool → Prop) : Prop := match t with
 | .one (.c (.ro (.v (.bool b)))) => k b
 | _ => False
theorem boolW_of {t : TS} {k : Bool → Prop} (h : boolW t k) : ∃ b, t = B b ∧ k b := by
 unfold boolW at h
 split at h
 ·exact ⟨_, rfl, h⟩
 ·exact h.elim
def i64W (t : TS) (k : Int → Prop) : Prop := match t with
 | .one (.c (.ro (.v (.int kd n)))) => BR (decide (kd = .i64)) (k n) False
 | _ => False
theorem i64W_of {t : TS} {k : Int → Prop} (h : i64W t k) : ∃ n, t = I n ∧ k n := by
 unfold i64W at h
 split at h
 ·obtain ⟨h1, h2⟩ := BR_yes h
  simp only [decide_eq_true_eq] at h1
  subst h1
  exact ⟨_, rfl, h2⟩
 ·exact h.elim
def intAW (t : TS) (k : Int → Prop) : Prop := match t with
 | .one (.c (.ro (.v (.int _ n)))) => k n
 | _ => False
theorem intAW_of {t : TS} {k : Int → Prop} (h : intAW t k) : ∃ kd n, t = V (.int kd n) ∧ k n := by
 unfold intAW at h
 split at h
 ·exact ⟨_, _, rfl, h⟩
 ·exact h.elim
def listW (rs : Rs) (t : TS) (k : Nat → List D → Prop) : Prop := match t with
 | .one (.c (.ro d)) => (match d with | .sl sz ds => k sz ds | _ => False)
 | .one (.c (.ref pl)) => (match pl with | ⟨a, p, q⟩ => cellW rs a p q fun _ c => match c with
  | .own d => (match d with | .sl sz ds => k sz ds | _ => False)
  | _ => False)
 | .one (.cut pl sz lo hi) => (match pl with | ⟨a, p, q⟩ => cellW rs a p q fun _ c => match c with
  | .own d => (match d with | .sl s ds => BR (Nat.beq s sz) (k sz ((ds.take hi).drop lo)) False | _ => False)
  | _ => False)
 | _ => False
theorem listW_of {n : Nat} {e : List En} {rs : Rs} {t : TS} {k : Nat → List D → Prop} (h : listW rs t k) : ∃ sz ds, listOf (stOf n e rs) t = some (sz, ds) ∧ k sz ds := by
 unfold listW at h
 split at h
 ·split at h
  ·exact ⟨_, _, rfl, h⟩
  ·exact h.elim
 ·rename_i pl
  obtain ⟨m, c, h1, _, h2⟩ := cellW_of (n := n) (e := e) h
  split at h2
  ·split at h2
   ·exact ⟨_, _, by simp [listOf, h1], h2⟩
   ·exact h2.elim
  ·exact h2.elim
 ·rename_i pl sz lo hi
  obtain ⟨a, p, q⟩ := pl
  simp only at h
  obtain ⟨m, c, h1, _, h2⟩ := cellW_of (n := n) (e := e) h
  split at h2
  ·split at h2
   ·obtain ⟨h3, h5⟩ := BR_yes h2
    have h6 := Nat.eq_of_beq_eq_true h3
    exact ⟨_, _, by simp [listOf, h1, h6], h5⟩
   ·exact h2.elim
  ·exact h2.elim
 ·exact h.elim
def takeCW : List D → Nat → (List C → Prop) → Prop
 | _, 0, k => k []
 | [], _ + 1, _ => False
 | d :: l, n + 1, k => forceD d fun d => takeCW l n fun l => k (.ro d :: l)
theorem takeCW_of : ∀ {n : Nat} {l : List D} {k : List C → Prop}, takeCW l n k → n ≤ l.length ∧ k ((l.take n).map C.ro)
 | 0, l, k, h => ⟨Nat.zero_le _, by cases l <;> exact h⟩
 | n + 1, [], k, h => h.elim
 | n + 1, d :: l, k, h => by
  obtain ⟨h1, h2⟩ := takeCW_of (l := l) (forceD_iff.1 h)
  exact ⟨by simp; omega, h2⟩
def loadW (P : Program) (rs : Rs) (t : TypeId) (a : TS) (k : TS → Prop) : Prop := match a with
 | .one (.ptr pl) => (match pl with | ⟨b, p, q⟩ => match aggT P t with
  | some false => cellW rs b p q fun m c => BR m (valCW b p q c fun c => k (.one (.c c))) False
  | some true => sizeW P t fun s => cellsW rs b p q s fun m l => BR m (k (.one (.agg l))) False
  | none => False)
 | .one (.cptr ds) => (match aggT P t with
  | some false => (match ds with | d :: _ => forceD d fun d => k (.one (.c (.ro d))) | [] => False)
  | some true => sizeW P t fun s => takeCW ds s fun l => k (.one (.agg l))
  | none => False)
 | _ => False
theorem loadW_of {P : Program} {w0 : World} {g0 : Gh} {n : Nat} {e : List En} {rs : Rs} {o : Oper} {t : TypeId} {x : Operand} {a : TS} {k : TS → Prop} (ho : o.op = .load t x) (hx : T.opd 0 (stOf n e rs) x = some a) (h : loadW P rs t a k) :
  ∃ t, Val P w0 g0 o (stOf n e rs) t ∧ k t := by
 unfold loadW at h
 split at h
 ·rename_i pl
  obtain ⟨b, p, q⟩ := pl
  simp only at h
  split at h
  ·rename_i ht
   obtain ⟨m, c, h1, h2, h3⟩ := cellW_of (n := n) (e := e) h
   obtain ⟨h4, h5⟩ := BR_yes h3
   subst h4
   exact ⟨_, .load ho hx ht h1 h2, valCW_of h5⟩
  ·rename_i ht
   obtain ⟨s, h1, h2⟩ := sizeW_of h
   obtain ⟨l, h3, h4⟩ := cellsW_of (n := n) (e := e) h2
   obtain ⟨h5, h6⟩ := BR_yes h4
   exact ⟨_, .loadAgg ho hx ht h1 h3 h5, h6⟩
  ·exact h.elim
 ·split at h
  ·rename_i ht
   split at h
   ·exact ⟨_, .loadC ho hx ht, forceD_iff.1 h⟩
   ·exact h.elim
  ·rename_i ht
   obtain ⟨s, h1, h2⟩ := sizeW_of h
   obtain ⟨h3, h4⟩ := takeCW_of h2
   exact ⟨_, .loadCAgg ho hx ht h1 h3, h4⟩
  ·exact h.elim
 ·exact h.elim
def offW (P : Program) (s : TypeId) (f : Nat) (k : Nat → Prop) : Prop := match fieldOff P s f with
 | some off => oneOf off small k
 | none => False
theorem offW_of {P : Program} {s : TypeId} {f : Nat} {k : Nat → Prop} (h : offW P s f k) : ∃ off, fieldOff P s f = some off ∧ k off := by
 unfold offW at h
 split at h
 ·rename_i off ho
  exact ⟨off, ho, oneOf_of h⟩
 ·exact h.elim
def fieldW (P : Program) (s : TypeId) (f : Nat) (a : TS) (k : TS → Prop) : Prop := match a with
 | .one (.ptr pl) => (match pl with | ⟨b, p, q⟩ => offW P s f fun off => oneOf (q + off) small fun q => k (.one (.ptr ⟨b, p, q⟩)))
 | .one (.cptr ds) => offW P s f fun off => dropW ds off fun ds => k (.one (.cptr ds))
 | _ => False
theorem fieldW_of {P : Program} {w0 : World} {g0 : Gh} {st : St} {o : Oper} {s : TypeId} {f : Nat} {x : Operand} {a : TS} {k : TS → Prop} (ho : o.op = .fieldAddr s x f) (hx : T.opd 0 st x = some a) (h : fieldW P s f a k) :
  ∃ t, Val P w0 g0 o st t ∧ k t := by
 unfold fieldW at h
 split at h
 ·obtain ⟨off, h1, h2⟩ := offW_of h
  exact ⟨_, .field ho hx h1, oneOf_of h2⟩
 ·obtain ⟨off, h1, h2⟩ := offW_of h
  exact ⟨_, .fieldC ho hx h1, dropW_of h2⟩
 ·exact h.elim
def takeNW {α : Type} : List α → Nat → (List α → Prop) → Prop
 | _, 0, k => k []
 | [], _ + 1, _ => False
 | x :: l, n + 1, k => takeNW l n fun l => k (x :: l)
theorem takeNW_of {α : Type} : ∀ {l : List α} {n : Nat} {k : List α → Prop}, takeNW l n k → n ≤ l.length ∧ k (l.take n)
 | l, 0, k, h => ⟨Nat.zero_le _, by cases l <;> exact h⟩
 | [], _ + 1, _, h => h.elim
 | x :: l, n + 1, k, h => by
  obtain ⟨h1, h2⟩ := takeNW_of (l := l) h
  exact ⟨by simp; omega, h2⟩
def fieldVW (P : Program) (s : TypeId) (f : Nat) (a : TS) (k : TS → Prop) : Prop := match a with
 | .one (.agg cs) => (match P.underlying s with
  | some (.struct fs) => (match fs[f]? with
   | some fl => (match aggT P fl.type with
    | some false => nthW cs fl.offset fun c => k (.one (.c c))
    | some true => (match sizeT P fl.type with
     | some n => BR (Nat.ble (fl.offset + n) cs.length) (dropW cs fl.offset fun l => takeNW l n fun l => k (.one (.agg l))) False
     | none => False)
    | none => False)
   | none => False)
  | _ => False)
 | _ => False
theorem fieldVW_of {P : Program} {w0 : World} {g0 : Gh} {st : St} {o : Oper} {s : TypeId} {f : Nat} {x : Operand} {a : TS} {k : TS → Prop} (ho : o.op = .field s x f) (hx : T.opd 0 st x = some a) (h : fieldVW P s f a k) :
  ∃ t, Val P w0 g0 o st t ∧ k t := by
 unfold fieldVW at h
 split at h
 ·split at h
  ·rename_i hu
   split at h
   ·rename_i hf
    split at h
    ·rename_i ht
     obtain ⟨c, hc, hk⟩ := nthW_of h
     exact ⟨_, .fieldC1 ho hx hu hf ht hc, hk⟩
    ·rename_i ht
     split at h
     ·rename_i hn
      obtain ⟨h1, h2⟩ := BR_yes h
      obtain ⟨_, h3⟩ := takeNW_of (dropW_of h2)
      exact ⟨_, .fieldCA ho hx hu hf ht hn (Nat.le_of_ble_eq_true h1), h3⟩
     ·exact h.elim
    ·exact h.elim
   ·exact h.elim
  ·exact h.elim
 ·exact h.elim
def snocW {α : Type} : List α → α → (List α → Prop) → Prop
 | [], x, k => k [x]
 | y :: l, x, k => snocW l x fun l => k (y :: l)
theorem snocW_of {α : Type} : ∀ {l : List α} {x : α} {k : List α → Prop}, snocW l x k → k (l ++ [x])
 | [], x, k, h => h
 | y :: l, x, k, h => snocW_of (l := l) h
def indexW (P : Program) (rs : Rs) (t : TypeId) (a b : TS) (k : TS → Prop) : Prop := match b with
 | .one (.c (.ro (.v (.int _ i)))) => (match P.underlying t with
  | some (.slice e) => sizeW P e fun s => (match a with
   | .one (.c (.ro d)) => (match d with
    | .sl sz ds => BR (Nat.beq sz s) (IxW ds i fun d => rowW d fun row => k (.one (.cptr row))) False
    | _ => False)
   | .one (.c (.ref pl)) => (match pl with | ⟨b, p, q⟩ => cellW rs b p q fun _ c => match c with
    | .own d => (match d with
     | .sl sz ds => BR (Nat.beq sz s) (BndW ds i fun m => snocW p (q, m) fun p => k (.one (.ptr ⟨b, p, 0⟩))) False
     | _ => False)
    | _ => False)
   | _ => False)
  | _ => False)
 | _ => False
theorem indexW_of {P : Program} {w0 : World} {g0 : Gh} {n : Nat} {e : List En} {rs : Rs} {o : Oper} {t : TypeId} {x y : Operand} {a b : TS} {k : TS → Prop} (ho : o.op = .indexAddr t x y) (hx : T.opd 0 (stOf n e rs) x = some a) (hy : T.opd 0 (stOf n e rs) y = some b) (h : indexW P rs t a b k) :
  ∃ t, Val P w0 g0 o (stOf n e rs) t ∧ k t := by
 unfold indexW at h
 split at h
 ·split at h
  ·rename_i hu
   obtain ⟨s, h1, h2⟩ := sizeW_of h
   split at h2
   ·split at h2
    ·obtain ⟨h3, m, d, h4, h5, h6⟩ := BR_yes h2
     have h3 := Nat.eq_of_beq_eq_true h3
     subst h3; subst h4
     exact ⟨_, .indexC ho hx hy hu h1 (Int.natCast_nonneg _) h5, rowW_of h6⟩
    ·exact h2.elim
   ·obtain ⟨m', c, h3, _, h4⟩ := cellW_of (n := n) (e := e) h2
    split at h4
    ·split at h4
     ·obtain ⟨h5, m, h6, h7, h8⟩ := BR_yes h4
      have h5 := Nat.eq_of_beq_eq_true h5
      subst h5; subst h6
      exact ⟨_, .index ho hx hy hu h1 h3 (Int.natCast_nonneg _) h7, snocW_of h8⟩
     ·exact h4.elim
    ·exact h4.elim
   ·exact h2.elim
  ·exact h.elim
 ·exact h.elim
def convW (P : Program) (rs : Rs) (src dst : TypeId) (a : TS) (k : TS → Prop) : Prop := match P.underlying src with
 | some (.int _) => (match a with
  | .one (.c (.ro (.v (.int ka x)))) => (match P.underlying dst with
   | some (.int k') => BR (decide (P.intKind dst = k')) (ConvW k' x fun b => k (V (.int k' b))) False
   | _ => False)
  | _ => False)
 | some (.slice e) => (match P.underlying e with
  | some (.int .u8) => (match P.underlying dst with
   | some .string => listW rs a fun sz ds => BR (Nat.beq sz 1) (NumsW ds fun ns => k (S (strOfNums ns))) False
   | _ => False)
  | _ => False)
 | _ => False
theorem convW_of {P : Program} {w0 : World} {g0 : Gh} {n : Nat} {e : List En} {rs : Rs} {o : Oper} {src dst : TypeId} {x : Operand} {a : TS} {k : TS → Prop} (ho : o.op = .convert src dst x) (hx0 : T.opd 0 (stOf n e rs) x = some a) (hx : T.opd 1 (stOf n e rs) x = some a) (h : convW P rs src dst a k) :
  ∃ t, Val P w0 g0 o (stOf n e rs) t ∧ k t := by
 unfold convW at h
 split at h
 ·rename_i hs
  split at h
  ·split at h
   ·rename_i hd
    obtain ⟨h1, b, h2, h3⟩ := BR_yes h
    simp only [decide_eq_true_eq] at h1
    exact ⟨_, .conv ho hx0 (by rw [hs]; rfl) h1 (by rw [h1]; exact hd) h2, h3⟩
   ·exact h.elim
  ·exact h.elim
 ·rename_i hs
  split at h
  ·rename_i he
   split at h
   ·rename_i hd
    obtain ⟨sz, ds, h1, h2⟩ := listW_of (n := n) (e := e) h
    obtain ⟨h3, ns, h4, h5⟩ := BR_yes h2
    have h3 := Nat.eq_of_beq_eq_true h3
    subst h3; subst h4
    exact ⟨_, .bytesStr ho hx h1 hs he hd, h5⟩
   ·exact h.elim
  ·exact h.elim
 ·exact h.elim
def bndW (n : Nat) (e : List En) (x : Option Operand) (d : Int) (k : Int → Prop) : Prop := match x with
 | none => k d
 | some x => opdW n e 0 x fun t => i64W t k
theorem bndW_of {n : Nat} {e : List En} {rs : Rs} {x : Option Operand} {d : Int} {k : Int → Prop} (h : bndW n e x d k) : ∃ i, (∀ y, x = some y → T.opd 0 (stOf n e rs) y = some (I i)) ∧ (x = none → i = d) ∧ k i := by
 cases x with
 | none => exact ⟨d, fun y h => (by cases h), fun _ => rfl, h⟩
 | some x =>
  obtain ⟨t, h1, h2⟩ := opdW_of (rs := rs) h
  obtain ⟨i, h3, h4⟩ := i64W_of h2
  subst h3
  exact ⟨i, fun y h => by cases h; exact h1, fun h => (by cases h), h4⟩
def cutD (lo hi : Option Operand) (ds : List D) (i j : Nat) : List D := match lo with
 | none => (match hi with | none => ds | some _ => ds.take j)
 | some _ => (match hi with | none => ds.drop i | some _ => (ds.take j).drop i)
inductive CutO (n : Nat) (i j : Int) (k : Nat → Nat → Prop) : Prop
 | mk (a b : Nat) (h0 : i = a) (h1 : j = b) (h2 : a < b) (h3 : b ≤ n) (c : k a b)
def sliceW (P : Program) (n : Nat) (e : List En) (rs : Rs) (ty : TypeId) (a : TS) (lo hi : Option Operand) (k : TS → Prop) : Prop := match P.underlying ty with
 | some .string => (match a with
  | .one (.c (.ro (.v (.string s)))) => (match lo with
   | some lo => (match hi with
    | some hi => opdW n e 0 lo fun t => i64W t fun i => opdW n e 0 hi fun t => i64W t fun j => CutW s.size i j fun i j => k (S (s.extract i j))
    | none => False)
   | none => False)
  | _ => False)
 | some (.slice el) => (match a with
  | .one (.c (.ro d)) => (match d with
   | .sl sz ds => sizeW P el fun s => BR (Nat.beq sz s) (bndW n e lo 0 fun i => bndW n e hi ds.length fun j => CutW ds.length i j fun i j => k (.one (.c (.ro (.sl sz (cutD lo hi ds i j)))))) False
   | _ => False)
  | .one (.c (.ref pl)) => (match pl with | ⟨a, p, q⟩ => cellW rs a p q fun _ c => match c with
   | .own d => (match d with
    | .sl sz ds => sizeW P el fun s => BR (Nat.beq sz s) (bndW n e lo 0 fun i => bndW n e hi ds.length fun j => CutO ds.length i j fun i j => k (.one (.cut ⟨a, p, q⟩ sz i j))) False
    | _ => False)
   | _ => False)
  | _ => False)
 | _ => False
theorem sliceW_of {P : Program} {w0 : World} {g0 : Gh} {n : Nat} {e : List En} {rs : Rs} {o : Oper} {ty : TypeId} {x : Operand} {lo hi : Option Operand} {a : TS} {k : TS → Prop} (ho : o.op = .slice ty x lo hi none) (hx : T.opd 0 (stOf n e rs) x = some a) (h : sliceW P n e rs ty a lo hi k) :
  ∃ t, Val P w0 g0 o (stOf n e rs) t ∧ k t := by
 unfold sliceW at h
 split at h
 ·rename_i hu
  split at h
  ·split at h
   ·split at h
    ·obtain ⟨t, h1, h2⟩ := opdW_of (rs := rs) h
     obtain ⟨i, rfl, h3⟩ := i64W_of h2
     obtain ⟨t, h4, h5⟩ := opdW_of (rs := rs) h3
     obtain ⟨j, rfl, h6⟩ := i64W_of h5
     obtain ⟨a, b, rfl, rfl, h7, h8, h9⟩ := h6
     exact ⟨_, .sliceS ho hx hu h1 h4 (Int.natCast_nonneg _) (by omega) (by omega), h9⟩
    ·exact h.elim
   ·exact h.elim
  ·exact h.elim
 ·rename_i hu
  split at h
  ·split at h
   ·rename_i sz ds
    obtain ⟨s, h1, h2⟩ := sizeW_of h
    obtain ⟨h3, h4⟩ := BR_yes h2
    have h3 := Nat.eq_of_beq_eq_true h3
    subst h3
    obtain ⟨i, h5, h6, h7⟩ := bndW_of (rs := rs) h4
    obtain ⟨j, h8, h9, h10⟩ := bndW_of (rs := rs) h7
    obtain ⟨a, b, rfl, rfl, h11, h12, h13⟩ := h10
    refine ⟨_, .sliceC ho hx hu h1 h5 (fun h => by have := h6 h; omega) h8 (fun h => by have := h9 h; omega) h11 h12, ?_⟩
    have he : cutD lo hi ds a b = (ds.take b).drop a := by
     unfold cutD
     split
     ·have ha : a = 0 := by have := h6 rfl; omega
      subst ha
      split
      ·have hb : b = ds.length := by have := h9 rfl; omega
       subst hb
       simp
      ·simp
     ·split
      ·have hb : b = ds.length := by have := h9 rfl; omega
       subst hb
       simp
      ·rfl
    rw [← he]
    exact h13
   ·exact h.elim
  ·rename_i pl
   obtain ⟨a, p, q⟩ := pl
   simp only at h
   obtain ⟨m, c, h1, _, h2⟩ := cellW_of (n := n) (e := e) h
   split at h2
   ·split at h2
    ·obtain ⟨s, h3, h4⟩ := sizeW_of h2
     obtain ⟨h5, h6⟩ := BR_yes h4
     have h5 := Nat.eq_of_beq_eq_true h5
     subst h5
     obtain ⟨i, h7, h8, h9⟩ := bndW_of (rs := rs) h6
     obtain ⟨j, h10, h11, h12⟩ := bndW_of (rs := rs) h9
     obtain ⟨a', b', rfl, rfl, h13, h14, h15⟩ := h12
     exact ⟨_, .sliceO ho hx h1 hu h3 h7 (fun h => by have := h8 h; omega) h10 (fun h => by have := h11 h; omega) h13 h14, h15⟩
    ·exact h2.elim
   ·exact h2.elim
  ·exact h.elim
 ·exact h.elim
def zV : Value → Value → Bool
 | .bool a, .bool b => a == b
 | .int k a, .int k' b => decide (k = k') && decide (a = b)
 | .string a, .string b => Nat.beq a.data.size 0 && Nat.beq b.data.size 0
 | .slice none 0 0, .slice none 0 0 => true
 | _, _ => false
theorem zV_eq {a b : Value} (h : zV a b = true) : a = b := by
 unfold zV at h
 split at h
 ·simp at h; rw [h]
 ·simp at h; rw [h.1, h.2]
 ·simp only [Bool.and_eq_true] at h
  have h1 := Nat.eq_of_beq_eq_true h.1
  have h2 := Nat.eq_of_beq_eq_true h.2
  rename_i a b
  congr 1
  apply ByteArray.ext
  rw [Array.eq_empty_of_size_eq_zero h1, Array.eq_empty_of_size_eq_zero h2]
 ·rfl
 ·cases h
def zsOk : List Value → List D → Bool
 | [], [] => true
 | z :: zs, d :: ds => zV z (zeroV d) && zeroOk d && zsOk zs ds
 | _, _ => false
theorem zsOk_eq : ∀ {zs : List Value} {ds : List D}, zsOk zs ds = true → zs = ds.map zeroV ∧ ds.all zeroOk = true
 | [], [], _ => ⟨rfl, rfl⟩
 | z :: zs, d :: ds, h => by
  simp only [zsOk, Bool.and_eq_true] at h
  obtain ⟨h1, h2⟩ := zsOk_eq h.2
  exact ⟨by rw [List.map_cons, zV_eq h.1.1, h1], by simp [h.1.2]; simpa using h2⟩
 | [], _ :: _, h => by cases h
 | _ :: _, [], h => by cases h
def partsW (n : Nat) (e : List En) : List (Nat × Operand) → (List (Nat × List C) → Prop) → Prop
 | [], k => k []
 | (i, x) :: l, k => opdW n e 1 x fun t => match t with
  | .one (.c c) => (match c with
   | .ro d => partsW n e l fun l => k ((i, [.ro d]) :: l)
   | .ref pl => partsW n e l fun l => k ((i, [.ref pl]) :: l)
   | _ => False)
  | .one (.agg cs) => partsW n e l fun l => k ((i, cs) :: l)
  | _ => False
theorem partsW_of {n : Nat} {e : List En} {rs : Rs} : ∀ {l : List (Nat × Operand)} {k : List (Nat × List C) → Prop}, partsW n e l k → ∃ pc, partsC (stOf n e rs) l = some pc ∧ k pc
 | [], k, h => ⟨[], rfl, h⟩
 | (i, x) :: l, k, h => by
  obtain ⟨t, h1, h2⟩ := opdW_of (rs := rs) h
  split at h2
  ·split at h2
   ·obtain ⟨pc, h3, h4⟩ := partsW_of (rs := rs) (l := l) h2
    exact ⟨_, by simp [partsC, partC, h1, h3], h4⟩
   ·obtain ⟨pc, h3, h4⟩ := partsW_of (rs := rs) (l := l) h2
    exact ⟨_, by simp [partsC, partC, h1, h3], h4⟩
   ·exact h2.elim
  ·obtain ⟨pc, h3, h4⟩ := partsW_of (rs := rs) (l := l) h2
   exact ⟨_, by simp [partsC, partC, h1, h3], h4⟩
  ·exact h2.elim
def structW (P : Program) (t : TypeId) (k : List D → List (Nat × Nat) → Prop) : Prop := match P.underlying t with
 | some (.struct fs) => (match P.info? t with
  | some it => (match it.zero with
   | some z => (match zeroD P 6 t with
    | some row => forceDs row fun row => BR (zsOk z.cells.toList row) (match fs.toList.mapM (fun f => (P.info? f.type).map fun i => (f.offset, i.size)) with
     | some pl => k row pl
     | none => False) False
    | none => False)
   | none => False)
  | none => False)
 | _ => False
theorem structW_of {P : Program} {t : TypeId} {k : List D → List (Nat × Nat) → Prop} (h : structW P t k) : ∃ fs it z row pl, P.underlying t = some (.struct fs) ∧ P.info? t = some it ∧ it.zero = some z ∧ zeroD P 6 t = some row ∧ z.cells.toList = row.map zeroV ∧ row.all zeroOk = true ∧
  fs.toList.mapM (fun f => (P.info? f.type).map fun i => (f.offset, i.size)) = some pl ∧ k row pl := by
 unfold structW at h
 split at h
 ·rename_i fs h1
  split at h
  ·rename_i it h2
   split at h
   ·rename_i z h3
    split at h
    ·rename_i row h4
     obtain ⟨h5, h6⟩ := BR_yes (forceDs_iff.1 h)
     split at h6
     ·rename_i pl h7
      exact ⟨fs, it, z, row, pl, h1, h2, h3, h4, (zsOk_eq h5).1, (zsOk_eq h5).2, h7, h6⟩
     ·exact h6.elim
    ·exact h.elim
   ·exact h.elim
  ·exact h.elim
 ·exact h.elim
def fillW (pl : List (Nat × Nat)) (cs : List C) (pc : List (Nat × List C)) (k : List C → Prop) : Prop := match fillC pl cs pc with
 | some cs => forceCs cs k
 | none => False
theorem fillW_of {pl : List (Nat × Nat)} {cs : List C} {pc : List (Nat × List C)} {k : List C → Prop} (h : fillW pl cs pc k) : ∃ cs', fillC pl cs pc = some cs' ∧ k cs' := by
 unfold fillW at h
 split at h
 ·rename_i cs' h1
  exact ⟨cs', h1, forceCs_iff.1 h⟩
 ·exact h.elim
theorem Val.len2 {P : Program} {w0 : World} {g0 : Gh} {st : St} {o : Oper} {x : Operand} {t e : TypeId} (ho : o.op = .call { callee := .builtin .len, args := #[x], argTypes := #[t] }) {pl pl2 : Pl} {sz : Nat} {ds : List D} (hx : T.opd 0 st x = some (.one (.c (.ref pl)))) (hc : st.cellAt pl = some (.ref pl2)) (hl : listOf st (.one (.c (.ref pl2))) = some (sz, ds))
  (hu : P.underlying t = some (.slice e)) : Val P w0 g0 o st (I ds.length) := fun a w g hR => by
 have h1 := hR.opd hx
 have h2 := (hR.cellAt hc).2.1
 have h3 : RepS w g (.one (.c (.ref pl2))) (a.eval x) := by
  cases h1 with
  | one _ _ h1 =>
   cases h1 with
   | c _ _ h1 => exact .one _ _ (.c _ _ ⟨h1.1.trans h2.1, h1.2⟩)
 obtain ⟨ad, c, hv, _⟩ := hR.list hl h3
 refine ⟨.int .i64 ds.length, fun w' hw => ?_, V_mk rfl⟩
 simp [execOp, ho, resolve, invoke, builtin, Builtin.len_, run_underlying hu, hv, goInt]
def lenW (P : Program) (rs : Rs) (t : TypeId) (a : TS) (k : TS → Prop) : Prop := match P.underlying t with
 | some .string => (match a with
  | .one (.c (.ro (.v (.string s)))) => k (I s.size)
  | _ => False)
 | some (.slice _) => (match a with
  | .one (.c (.ref pl)) => (match pl with | ⟨b, p, q⟩ => cellW rs b p q fun _ c => match c with
   | .own d => (match d with | .sl _ ds => LenW ds fun n => k (I n) | .v _ => False | .st _ => False | .hole => False)
   | .ref pl2 => listW rs (.one (.c (.ref pl2))) fun _ ds => LenW ds fun n => k (I n)
   | .ro _ => False
   | .dead => False)
  | _ => listW rs a fun _ ds => LenW ds fun n => k (I n))
 | _ => False
def onesW : List TS → (List TV → Prop) → Prop
 | [], k => k []
 | t :: l, k => (match t with
  | .one tv => onesW l fun l => k (tv :: l)
  | _ => False)
theorem onesW_of : ∀ {l : List TS} {k : List TV → Prop}, onesW l k → ∃ tvs, l = tvs.map TS.one ∧ k tvs
 | [], k, h => ⟨[], rfl, h⟩
 | t :: l, k, h => by
  unfold onesW at h
  split at h
  ·obtain ⟨tvs, h1, h2⟩ := onesW_of (l := l) h
   exact ⟨_ :: tvs, by simp [h1], h2⟩
  ·exact h.elim
def valW (P : Program) (n : Nat) (e : List En) (rs : Rs) (op : Op) (k : TS → Prop) : Prop := match op with
 | .move x => opdW n e 1 x k
 | .assign x => opdW n e 1 x k
 | .pick c x y => opdW n e 0 c fun t => boolW t fun b => BR b (opdW n e 0 x k) (opdW n e 0 y k)
 | .load t x => opdW n e 0 x fun a => loadW P rs t a k
 | .nilCheck x => opdW n e 0 x fun a => (match a with | .one (.ptr pl) => k (.one (.ptr pl)) | _ => False)
 | .binOp op ty x y _ => opdW n e 0 x fun a => opdW n e 0 y fun b => binW P op ty a b k
 | .unOp op _ x => opdW n e 0 x fun a => (match op with
  | .not => boolW a fun b => k (B (!b))
  | .neg => i64W a fun i => RngW i (RngW (-i) (k (I (-i))))
  | _ => False)
 | .convert src dst x => opdW n e 1 x fun a => convW P rs src dst a k
 | .slice ty x lo hi m => (match m with | none => opdW n e 0 x fun a => sliceW P n e rs ty a lo hi k | some _ => False)
 | .fieldAddr s x f => opdW n e 0 x fun a => fieldW P s f a k
 | .field s x f => opdW n e 0 x fun a => fieldVW P s f a k
 | .indexAddr t x y => opdW n e 0 x fun a => opdW n e 0 y fun b => indexW P rs t a b k
 | .index ty x y => opdW n e 0 x fun a => opdW n e 0 y fun b => intAW b fun i => (match P.underlying ty with
  | some .string => (match a with
   | .one (.c (.ro (.v (.string s)))) => ByteW s i fun b => k (V (.int .u8 b.toNat))
   | _ => False)
  | _ => False)
 | .extract x i => opdW n e 0 x fun a => (match a with | .tup ts => nthW ts i fun t => k (.one t) | _ => False)
 | .build t parts => structW P t fun row pl => partsW n e parts.toList fun pc => fillW pl (row.map C.ro) pc fun cs => k (.one (.agg cs))
 | .call c => (match c with
  | ⟨cl, as, ts⟩ => (match cl with
   | .builtin b => (match as with
    | ⟨as⟩ => (match ts with
     | ⟨ts⟩ => (match b with
      | .len => (match as, ts with
       | [x], [t] => opdW n e 0 x fun a => lenW P rs t a k
       | _, _ => False)
      | .min => (match as, ts with
       | [x, y], [_, _] => opdW n e 0 x fun a => opdW n e 0 y fun b => i64W a fun a => i64W b fun b => k (I (if b < a then b else a))
       | _, _ => False)
      | .max => (match as, ts with
       | [x, y], [_, _] => opdW n e 0 x fun a => opdW n e 0 y fun b => i64W a fun a => i64W b fun b => k (I (if b > a then b else a))
       | _, _ => False)
      | _ => False)))
   | _ => False))
 | .makeFunc fn first caps => (match fn with
  | .func f => (match first with
   | ⟨[]⟩ => (match caps with | ⟨cs⟩ => opdsW n e cs fun ts => onesW ts fun tvs => k (.fn f tvs))
   | _ => False)
  | _ => False)
 | _ => False
theorem opd01 {st : St} {x : Operand} {t : TS} (h : T.opd 1 st x = some t) : T.opd 0 st x = some t ∨ ∃ z, t = .one (.c (.ro (.sl z []))) := by
 cases x with
 | const v =>
  simp only [opd] at h ⊢
  split at h
  ·rename_i hp; rw [if_pos hp]; exact .inl h
  ·rename_i hp
   rw [if_neg hp]
   split at h
   ·simp only [Option.some.injEq] at h
    exact .inr ⟨1, h.symm⟩
   ·cases h
 | tmp t => exact .inl h
 | func f => exact .inl h
 | global g => exact .inl h
theorem valW_of {P : Program} {w0 : World} {g0 : Gh} {n : Nat} {e : List En} {rs : Rs} {o : Oper} {k : TS → Prop} (h : valW P n e rs o.op k) : ∃ t, Val P w0 g0 o (stOf n e rs) t ∧ k t := by
 generalize ho : o.op = op at h
 unfold valW at h
 split at h
 ·obtain ⟨t, h1, h2⟩ := opdW_of (rs := rs) h
  exact ⟨t, .move 1 ho h1, h2⟩
 ·obtain ⟨t, h1, h2⟩ := opdW_of (rs := rs) h
  exact ⟨t, .assign 1 ho h1, h2⟩
 ·obtain ⟨t, h1, h2⟩ := opdW_of (rs := rs) h
  obtain ⟨b, rfl, h3⟩ := boolW_of h2
  rcases BR_iff.1 h3 with ⟨rfl, h4⟩ | ⟨rfl, h4⟩
  ·obtain ⟨t, h5, h6⟩ := opdW_of (rs := rs) h4
   exact ⟨t, .pick ho h1 (by simpa using h5), h6⟩
  ·obtain ⟨t, h5, h6⟩ := opdW_of (rs := rs) h4
   exact ⟨t, .pick ho h1 (by simpa using h5), h6⟩
 ·obtain ⟨t, h1, h2⟩ := opdW_of (rs := rs) h
  exact loadW_of ho h1 h2
 ·obtain ⟨t, h1, h2⟩ := opdW_of (rs := rs) h
  split at h2
  ·exact ⟨_, .nilP ho h1, h2⟩
  ·exact h2.elim
 ·obtain ⟨t, h1, h2⟩ := opdW_of (rs := rs) h
  obtain ⟨t', h3, h4⟩ := opdW_of (rs := rs) h2
  exact binW_of ho h1 h3 h4
 ·obtain ⟨t, h1, h2⟩ := opdW_of (rs := rs) h
  split at h2
  ·obtain ⟨b, rfl, h3⟩ := boolW_of h2
   exact ⟨_, .not ho h1, h3⟩
  ·obtain ⟨i, rfl, h3⟩ := i64W_of h2
   exact ⟨_, .neg ho h1 (by have := h3.c.hi; omega) h3.hi, h3.c.c⟩
  ·exact h2.elim
 ·obtain ⟨t, h1, h2⟩ := opdW_of (rs := rs) h
  rcases opd01 h1 with h3 | ⟨z, rfl⟩
  ·exact convW_of ho h3 h1 h2
  ·unfold convW at h2
   split at h2
   ·exact h2.elim
   ·rename_i hs
    split at h2
    ·rename_i he
     split at h2
     ·rename_i hd
      obtain ⟨sz, ds, h3, h4⟩ := listW_of (n := n) (e := e) h2
      obtain ⟨h5, ns, h6, h7⟩ := BR_yes h4
      have h5 := Nat.eq_of_beq_eq_true h5
      subst h5; subst h6
      exact ⟨_, .bytesStr ho h1 h3 hs he hd, h7⟩
     ·exact h2.elim
    ·exact h2.elim
   ·exact h2.elim
 ·split at h
  ·obtain ⟨t, h1, h2⟩ := opdW_of (rs := rs) h
   exact sliceW_of ho h1 h2
  ·exact h.elim
 ·obtain ⟨t, h1, h2⟩ := opdW_of (rs := rs) h
  exact fieldW_of ho h1 h2
 ·obtain ⟨t, h1, h2⟩ := opdW_of (rs := rs) h
  exact fieldVW_of ho h1 h2
 ·obtain ⟨t, h1, h2⟩ := opdW_of (rs := rs) h
  obtain ⟨t', h3, h4⟩ := opdW_of (rs := rs) h2
  exact indexW_of ho h1 h3 h4
 ·obtain ⟨t, h1, h2⟩ := opdW_of (rs := rs) h
  obtain ⟨t', h3, h4⟩ := opdW_of (rs := rs) h2
  obtain ⟨kd, i, rfl, h5⟩ := intAW_of h4
  split at h5
  ·rename_i hu
   split at h5
   ·obtain ⟨m, b, rfl, h6, h7⟩ := h5
    exact ⟨_, .indexA ho h1 h3 hu (Int.natCast_nonneg _) h6, h7⟩
   ·exact h5.elim
  ·exact h5.elim
 ·obtain ⟨t, h1, h2⟩ := opdW_of (rs := rs) h
  split at h2
  ·obtain ⟨t, h3, h4⟩ := nthW_of h2
   exact ⟨_, .extract ho h1 h3, h4⟩
  ·exact h2.elim
 ·rename_i t parts
  obtain ⟨fs, it, z, row, pl, h1, h2, h3, h4, h5, h6, h7, h8⟩ := structW_of h
  obtain ⟨pc, h9, h10⟩ := partsW_of (rs := rs) h8
  obtain ⟨cs, h11, h12⟩ := fillW_of h10
  exact ⟨_, Val.build (parts := parts.toList) (by rw [ho]) h9 h1 h2 h3 h4 h5 h6 h7 h11, h12⟩
 ·rename_i c
  obtain ⟨cl, ⟨as⟩, ⟨ts⟩⟩ := c
  simp only at h
  split at h
  ·split at h
   ·split at h
    ·obtain ⟨t, h1, h2⟩ := opdW_of (rs := rs) h
     unfold lenW at h2
     split at h2
     ·rename_i hu
      split at h2
      ·exact ⟨_, .lenS ho h1 hu, h2⟩
      ·exact h2.elim
     ·rename_i hu
      split at h2
      ·rename_i pl
       obtain ⟨b, p, q⟩ := pl
       simp only at h2
       obtain ⟨m, c, h3, _, h4⟩ := cellW_of (n := n) (e := e) h2
       split at h4
       ·split at h4
        ·rename_i sz ds
         obtain ⟨m, h5, h6⟩ := h4
         subst h5
         have h7 : listOf (stOf n e rs) (.one (.c (.ref ⟨b, p, q⟩))) = some (sz, ds) := by simp only [listOf, h3]
         exact ⟨_, .len ho h1 h7 hu, h6⟩
        ·exact h4.elim
        ·exact h4.elim
        ·exact h4.elim
       ·obtain ⟨sz, ds, h5, m, h6, h7⟩ := listW_of (n := n) (e := e) h4
        subst h6
        exact ⟨_, .len2 ho h1 h3 h5 hu, h7⟩
       ·exact h4.elim
       ·exact h4.elim
      ·obtain ⟨sz, ds, h3, m, h4, h5⟩ := listW_of (n := n) (e := e) h2
       subst h4
       exact ⟨_, .len ho h1 h3 hu, h5⟩
     ·exact h2.elim
    ·exact h.elim
   ·split at h
    ·obtain ⟨t, h1, h2⟩ := opdW_of (rs := rs) h
     obtain ⟨t', h3, h4⟩ := opdW_of (rs := rs) h2
     obtain ⟨a, rfl, h5⟩ := i64W_of h4
     obtain ⟨b, rfl, h6⟩ := i64W_of h5
     exact ⟨_, .min ho h1 h3, h6⟩
    ·exact h.elim
   ·split at h
    ·obtain ⟨t, h1, h2⟩ := opdW_of (rs := rs) h
     obtain ⟨t', h3, h4⟩ := opdW_of (rs := rs) h2
     obtain ⟨a, rfl, h5⟩ := i64W_of h4
     obtain ⟨b, rfl, h6⟩ := i64W_of h5
     exact ⟨_, .max ho h1 h3, h6⟩
    ·exact h.elim
   ·exact h.elim
  ·exact h.elim
 ·split at h
  ·split at h
   ·rename_i caps
    obtain ⟨cs⟩ := caps
    simp only at h
    obtain ⟨ts, h1, h2⟩ := opdsW_of (rs := rs) h
    obtain ⟨tvs, h3, h4⟩ := onesW_of h2
    exact ⟨_, .makeFunc ho h1 h3, h4⟩
   ·exact h.elim
  ·exact h.elim
 ·exact h.elim
end Go.Proofs.Ytcmoifejjodgcaa.T

