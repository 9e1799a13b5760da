
import Derived.Test.YtcmoifejjodgcaaRep
import Derived.Test.YtcmoifejjodgcaaRkp
namespace Go.Proofs.Ytcmoifejjodgcaa.T
open Go
set_option linter.unusedVariables false
set_option linter.unusedSimpArgs false
section
variable {P : Program} {w0 : World} {g0 : Gh} {n : Nat} {e : List En} {rs : Rs} {o : Oper} {K : Kn}
def soleW (rs : Rs) (b : Nat) (k : Nat → List D → Prop) : Prop := rootW rs b fun m row => BR m False (match row with
 | [] => False
 | c :: l => (match l with
  | [] => (match c with
   | .own d => (match d with | .sl sz ds => k sz ds | _ => False)
   | _ => False)
  | _ => False))
theorem soleW_of {b : Nat} {k : Nat → List D → Prop} (h : soleW rs b k) : ∃ sz ds, (stOf n e rs).root b = some ⟨false, [.own (.sl sz ds)]⟩ ∧ k sz ds := by
 obtain ⟨m, row, h1, h2⟩ := rootW_of (n := n) (e := e) h
 obtain ⟨rfl, h3⟩ := BR_no h2
 split at h3
 ·exact h3.elim
 ·split at h3
  ·split at h3
   ·split at h3
    ·exact ⟨_, _, h1, h3⟩
    ·exact h3.elim
   ·exact h3.elim
  ·exact h3.elim
def flatW (P : Program) (t : TypeId) (k : Nat → Bool → Prop) : Prop := zeroW P t fun i z row => oneOf i.size small fun sz => BR (Nat.ble i.bytes 1048576 && Nat.beq z.cells.size sz) (k sz (allV row)) False
def append2W (P : Program) (n : Nat) (k b : Nat) (y : Operand) (t t2 : TypeId) (e : List En) (rs : Rs) (K : Kn) : Prop := soleW rs b fun sz ds => match P.underlying t with
 | some (.slice el) => (match P.underlying t2 with
  | some (.slice _) => flatW P el fun s fl => BR (Nat.beq s sz) (BR fl
   (opdW n e sz y fun tv => listW rs tv fun sz' ns => BR (Nat.beq sz' sz) (AppP ds ns (ownW [k, b] k sz (ds ++ ns) e rs K)) False)
   (opdW n e 0 y fun tv => match tv with
    | .one (.c (.ref s)) => (match s with
     | ⟨k2, p, q⟩ => (match p, q with
      | [], 0 => BR (Nat.beq k2 b) False (soleW rs k2 fun sz' ns => BR (Nat.beq sz' sz) (AppO ds ns (ownW [k, b, k2] k sz (ds ++ ns) e rs K)) False)
      | _, _ => False))
    | _ => False)) False
  | _ => False)
 | _ => False
theorem append2W_of {k b : Nat} {x y : Operand} {t t2 : TypeId} (ho : o.op = .call { callee := .builtin .append, args := #[x, y], argTypes := #[t, t2] }) (hd : o.dst = some k) (hx : T.opd 0 (stOf n e rs) x = some (.one (.c (.ref ⟨b, [], 0⟩))))
  (h : append2W P n k b y t t2 e rs K) : OpT P w0 g0 o (stOf n e rs) (Lg n K) := by
 obtain ⟨sz, ds, h1, h2⟩ := soleW_of (n := n) (e := e) h
 split at h2
 ·rename_i el hu
  split at h2
  ·rename_i el2 hu2
   obtain ⟨i, z, row, h3, h4, h5, h6, h7, h8⟩ := zeroW_of h2
   obtain ⟨h9, h10⟩ := BR_yes (oneOf_of h8)
   simp only [Bool.and_eq_true] at h9
   have h92 := Nat.eq_of_beq_eq_true h9.2
   obtain ⟨h11, h12⟩ := BR_yes h10
   have h11 := Nat.eq_of_beq_eq_true h11
   subst h11
   rcases BR_iff.1 h12 with ⟨_, h13⟩ | ⟨_, h13⟩
   ·obtain ⟨tv, h14, h15⟩ := opdW_of (rs := rs) h13
    obtain ⟨sz', ns, h16, h17⟩ := listW_of (n := n) (e := e) h15
    obtain ⟨h18, h19⟩ := BR_yes h17
    have h18 := Nat.eq_of_beq_eq_true h18
    subst h18
    obtain ⟨h20, h21⟩ := ownW_of (n := n) h19.c
    exact .appendE ho hd hx h14 h1 h16 h19.plain hu hu2 h3 h4 rfl h9.1 h92 h19.len h21 h20
   ·obtain ⟨tv, h14, h15⟩ := opdW_of (rs := rs) h13
    split at h15
    ·rename_i s
     obtain ⟨k2, p, q⟩ := s
     simp only at h15
     split at h15
     ·obtain ⟨h16, h17⟩ := BR_no h15
      obtain ⟨sz', ns, h18, h19⟩ := soleW_of (n := n) (e := e) h17
      obtain ⟨h20, h21⟩ := BR_yes h19
      have h20 := Nat.eq_of_beq_eq_true h20
      subst h20
      obtain ⟨h22, h23⟩ := ownW_of (n := n) h21.c
      exact .appendOE ho hd hx h14 h1 h18 (fun e => by subst e; simp at h16) h21.nh hu hu2 h3 h4 rfl h9.1 h92 h21.len h23 h22
     ·exact h15.elim
    ·exact h15.elim
  ·exact h2.elim
 ·exact h2.elim
abbrev tmpK : Nat := 999998
def appendW (P : Program) (n : Nat) (k : Nat) (x y : Operand) (t t2 : TypeId) (e : List En) (rs : Rs) (K : Kn) : Prop := opdW n e 0 x fun a => match a with
 | .one (.c (.ref s)) => (match s with
  | ⟨b, p, q⟩ => rootW rs b fun m row => BR (!m && Nat.beq row.length 1 && p.isEmpty && Nat.beq q 0) (append2W P n k b y t t2 e rs K) (takeW b p q tmpK e rs fun e rs => append2W P n k tmpK y t t2 e rs K))
 | _ => False
theorem opd_takeN {st st' : St} {x : Operand} {b q L : Nat} {p : List (Nat × Nat)} (hx : T.opd 0 st x = some (.one (.c (.ref ⟨b, p, q⟩)))) (hL : b ≠ L) (ht : st.takeN b p q L = some st') : T.opd 0 st' x = some (.one (.c (.ref ⟨L, [], 0⟩))) := by
 cases x with
 | const v =>
  simp only [opd] at hx
  split at hx
  ·simp at hx
  ·split at hx <;> simp at hx
 | func f => simp [opd] at hx
 | global g => simp [opd] at hx
 | tmp i =>
  have hx' : st.tmps[i]? = some (.one (.c (.ref ⟨b, p, q⟩))) := hx
  simp only [St.takeN] at ht
  split at ht
  ·rename_i r hr
   split at ht
   ·rename_i sz ds hc
    rw [Option.map_eq_some_iff] at ht
    obtain ⟨row', h1, h2⟩ := ht
    subst h2
    show ((((st.fresh L ⟨false, [.own (.sl sz ds)]⟩).setRoot b ⟨r.mem, row'⟩).tmps.map (reT b p q L))[i]?) = _
    have h3 : ((st.fresh L ⟨false, [.own (.sl sz ds)]⟩).setRoot b ⟨r.mem, row'⟩).tmps = st.tmps.map (TS.kill (fun pl => pl.k == L) (fun pl => pl.k == L)) := rfl
    have h4 : (b == L) = false := by simpa using hL
    rw [h3, List.map_map, List.getElem?_map, hx']
    simp [TS.kill, TV.kill, C.kill, h4, reT, reC]
   ·cases ht
  ·cases ht
theorem appendW_of {k : Nat} {x y : Operand} {t t2 : TypeId} (ho : o.op = .call { callee := .builtin .append, args := #[x, y], argTypes := #[t, t2] }) (hd : o.dst = some k)
  (h : appendW P n k x y t t2 e rs K) : OpT P w0 g0 o (stOf n e rs) (Lg n K) := by
 obtain ⟨a, h1, h2⟩ := opdW_of (rs := rs) h
 split at h2
 ·rename_i s
  obtain ⟨b, p, q⟩ := s
  simp only at h2
  obtain ⟨m, row, h3, h4⟩ := rootW_of (n := n) (e := e) h2
  rcases BR_iff.1 h4 with ⟨h5, h6⟩ | ⟨_, h6⟩
  ·simp only [Bool.and_eq_true] at h5
   have h7 : p = [] := by simpa using h5.1.2
   have h8 := Nat.eq_of_beq_eq_true h5.2
   subst h7; subst h8
   exact append2W_of ho hd h1 h6
  ·obtain ⟨h7, st', h8, e', rs', h9, h10⟩ := takeW_of (n := n) h6
   have h11 := opd_takeN h1 h7 h8
   subst h9
   exact .takeN h8 h7 (by decide) (append2W_of ho hd h11 h10)
 ·exact h2.elim
def slOf : List D → (List C → Prop) → Prop
 | [], k => k []
 | d :: l, k => match d with
  | .sl s ds => slOf l fun l => k (.own (.sl s ds) :: l)
  | .v _ => slOf l k
  | .st _ => slOf l k
  | .hole => slOf l k
theorem slOf_of : ∀ {l : List D} {k : List C → Prop}, slOf l k → k ((l.filter isSl).map C.own)
 | [], k, h => h
 | d :: l, k, h => by
  cases d with
  | sl s ds => exact slOf_of (l := l) h
  | v x => exact slOf_of (l := l) h
  | st x => exact slOf_of (l := l) h
  | hole => exact slOf_of (l := l) h
def lacks (parts : List (Nat × Operand)) : Nat → List (Nat × Nat) → List D → Bool
 | _, [], _ => false
 | i, (off, s) :: pl, row => (!(parts.any fun p => Nat.beq p.1 i) && !(allV ((row.drop off).take s))) || lacks parts (i + 1) pl row
def buildW (P : Program) (n : Nat) (k : Nat) (t : TypeId) (parts : List (Nat × Operand)) (e : List En) (rs : Rs) (K : Kn) : Prop := structW P t fun row pl => BR (lacks parts 0 pl row)
 (slOf row fun cs => freshW k false cs e rs fun e rs => partsW n e parts fun pc => fillW pl (refsD k 0 row) pc fun cs => K (.set k (.one (.agg cs)) :: e) rs)
 (partsW n e parts fun pc => fillW pl (row.map C.ro) pc fun cs => K (.set k (.one (.agg cs)) :: e) rs)
theorem buildW_of {k : Nat} {t : TypeId} {parts : Array (Nat × Operand)} (ho : o.op = .build t parts) (hd : o.dst = some k) (h : buildW P n k t parts.toList e rs K) : OpT P w0 g0 o (stOf n e rs) (Lg n K) := by
 obtain ⟨fs, it, z, row, pl, h1, h2, h3, h4, h5, h6, h7, h8⟩ := structW_of h
 rcases BR_iff.1 h8 with ⟨_, h9⟩ | ⟨_, h9⟩
 ·obtain ⟨h10, e', rs', h11, h12⟩ := freshW_of (n := n) (slOf_of h9)
  obtain ⟨pc, h13, h14⟩ := partsW_of (rs := rs') h12
  obtain ⟨cs, h15, h16⟩ := fillW_of h14
  refine OpT.buildN (parts := parts.toList) (by rw [ho]) hd h1 h2 h3 h4 h5 h6 h7 rfl (by rw [h11]; exact h13) h15 ?_ h10
  rw [h11]
  exact .put h16
 ·obtain ⟨pc, h13, h14⟩ := partsW_of (rs := rs) h9
  obtain ⟨cs, h15, h16⟩ := fillW_of h14
  refine .val (Val.build (parts := parts.toList) (by rw [ho]) h13 h1 h2 h3 h4 h5 h6 h7 h15) ?_
  rw [hd]
  exact .put h16
def putW (dst : Option Nat) (t : TS) (e : List En) (rs : Rs) (K : Kn) : Prop := match dst with
 | some i => K (.set i t :: e) rs
 | none => K e rs
theorem putW_of {dst : Option Nat} {t : TS} (h : putW dst t e rs K) : Lg n K ((stOf n e rs).put dst t) := by
 cases dst with
 | none => exact .mk h
 | some i => exact .put h
def storeW (P : Program) (n : Nat) (dst : Option Nat) (t : TypeId) (x y : Operand) (e : List En) (rs : Rs) (K : Kn) : Prop := opdW n e 0 x fun a => match a with
 | .one (.ptr pl) => (match pl with
  | ⟨b, p, q⟩ => sizeW P t fun s => zOfW P t fun z => opdW n e z y fun v => match v with
   | .one (.c c) => BR (Nat.beq s 1) (match p with
    | [] => cellW rs b [] q fun m _ => BR m (store1W b [] q c e rs fun e rs => putW dst (.one .dead) e rs K) False
    | x :: p => (match x with | (q1, i) => zatW b q1 i p [c] q e rs fun e rs => putW dst (.one .dead) e rs K)) False
   | .one (.agg cs) => BR (Nat.beq cs.length s) (match p with
    | [] => cellW rs b [] q fun m _ => BR m (storesW b [] 40 cs q e rs fun e rs => putW dst (.one .dead) e rs K) False
    | x :: p => (match x with | (q1, i) => zatW b q1 i p cs q e rs fun e rs => putW dst (.one .dead) e rs K)) False
   | _ => False)
 | _ => False
theorem storeW_of {t : TypeId} {x y : Operand} (ho : o.op = .store t x y) (h : storeW P n o.dst t x y e rs K) : OpT P w0 g0 o (stOf n e rs) (Lg n K) := by
 obtain ⟨a, h1, h2⟩ := opdW_of (rs := rs) h
 split at h2
 ·rename_i pl
  obtain ⟨b, p, q⟩ := pl
  simp only at h2
  obtain ⟨s, h3, h4⟩ := sizeW_of h2
  obtain ⟨z, h4⟩ := zOfW_of h4
  obtain ⟨v, h5, h6⟩ := opdW_of (rs := rs) h4
  split at h6
  ·obtain ⟨h7, h8⟩ := BR_yes h6
   have h7 := Nat.eq_of_beq_eq_true h7
   subst h7
   cases p with
   | nil =>
    obtain ⟨m, c0, h9, h10, h11⟩ := cellW_of (n := n) (e := e) h8
    obtain ⟨rfl, h12⟩ := BR_yes h11
    obtain ⟨st', h13, e', rs', h14, h15⟩ := store1W_of (n := n) h12
    subst h14
    exact .store ho h1 h5 h3 h9 h10 h13 (putW_of h15)
   | cons x p =>
    obtain ⟨q1, i⟩ := x
    obtain ⟨st', h13, e', rs', h14, h15⟩ := zatW_of (n := n) h8
    subst h14
    simp only [St.storeAll, id_eq] at h13
    split at h13
    ·rename_i c0 hc0
     split at h13
     ·rename_i st2 hst
      cases h13
      exact .store ho h1 h5 h3 hc0 rfl hst (putW_of h15)
     ·cases h13
    ·cases h13
  ·obtain ⟨h7, h8⟩ := BR_yes h6
   have h7 := Nat.eq_of_beq_eq_true h7
   cases p with
   | nil =>
    obtain ⟨m, c0, h9, h10, h11⟩ := cellW_of (n := n) (e := e) h8
    obtain ⟨rfl, h12⟩ := BR_yes h11
    obtain ⟨st', h13, e', rs', h14, h15⟩ := storesW_of (n := n) h12
    subst h14
    exact .storeAgg ho h1 (opd0_agg h5) h3 h7 h10 h13 (putW_of h15)
   | cons x p =>
    obtain ⟨q1, i⟩ := x
    obtain ⟨st', h13, e', rs', h14, h15⟩ := zatW_of (n := n) h8
    subst h14
    exact .storeAgg ho h1 (opd0_agg h5) h3 h7 rfl h13 (putW_of h15)
  ·exact h6.elim
 ·exact h2.elim
end
end Go.Proofs.Ytcmoifejjodgcaa.T

