
import Derived.Test.YtcmoifejjodgcaaRdp
namespace Go.Proofs.Ytcmoifejjodgcaa.T
open Go
set_option linter.unusedVariables false
set_option linter.unusedSimpArgs false
def OpX (m : Bool) (P : Program) (w0 : World) (g0 : Gh) (o : Oper) (st : St) (Q : St → Prop) : Prop := if m then OpM P w0 g0 o st Q else OpT P w0 g0 o st Q
theorem OpM.t {P : Program} {w0 : World} {g0 : Gh} {o : Oper} {st : St} {Q : St → Prop} (h : OpM P w0 g0 o st Q) : OpT P w0 g0 o st Q := fun a w g hR K Q' hK => by
 have h1 := h a w g hR K hK
 unfold Oper.wp
 generalize (execOp a.eval o).run P w = r at h1
 cases r with
 | halt x w' => exact h1.elim
 | ok x w' =>
  cases x <;> simp only [mUpon] at h1 <;> simp only [Oper.upon]
  case value v => exact h1.2
  case skip => exact h1.2
  case enter f args => exact h1.2.mono fun e w'' ⟨v, h2, h3, h4⟩ => by subst h2; exact h4
theorem OpX.of {m : Bool} {P : Program} {w0 : World} {g0 : Gh} {o : Oper} {st : St} {Q : St → Prop} (h : OpM P w0 g0 o st Q) : OpX m P w0 g0 o st Q := by
 unfold OpX
 split
 ·exact h
 ·exact h.t
theorem OpT.takeN {P : Program} {w0 : World} {g0 : Gh} {o : Oper} {st st' : St} {Q : St → Prop} {k1 : Nat} {p1 : List (Nat × Nat)} {q1 L : Nat} (ht : st.takeN k1 p1 q1 L = some st') (hne : k1 ≠ L) (hL : L < 1000000) (h : OpT P w0 g0 o st' Q) : OpT P w0 g0 o st Q :=
 fun a w g hR K Q' hK => by
  obtain ⟨g1, h1⟩ := hR.takeN ht hne hL
  exact h a w g1 h1 K Q' hK
def takeR (rs : Rs) (L sz : Nat) (ds : List D) (b : Nat) (m : Bool) (row : List C) : Rs := (((⟨[], rs⟩ : St).fresh L ⟨false, [.own (.sl sz ds)]⟩).setRoot b ⟨m, row⟩).roots
def takeW (b : Nat) (p : List (Nat × Nat)) (q L : Nat) (e : List En) (rs : Rs) (K : Kn) : Prop := BR (Nat.beq b L) False (rootW rs b fun m row => cellW rs b p q fun _ c => match c with
 | .own d => (match d with
  | .sl sz ds => forceCs (row.map (C.kill fun pl => pl.k == L)) fun row => setRowW row p q (.own .hole) fun row => normW L rs (takeR rs L sz ds b m row) fun rs => K (.app (reT b p q L) :: .app (killK L) :: e) rs
  | _ => False)
 | _ => False)
theorem takeW_of {n b q L : Nat} {p : List (Nat × Nat)} {e : List En} {rs : Rs} {K : Kn} (h : takeW b p q L e rs K) : b ≠ L ∧ ∃ st', (stOf n e rs).takeN b p q L = some st' ∧ Lg n K st' := by
 obtain ⟨h0, h⟩ := BR_no h
 refine ⟨fun e => by subst e; simp at h0, ?_⟩
 obtain ⟨m, row, h1, h2⟩ := rootW_of (n := n) (e := e) h
 obtain ⟨_, c, h3, _, h4⟩ := cellW_of (n := n) (e := e) h2
 split at h4
 ·split at h4
  ·rename_i sz ds
   obtain ⟨row', h5, h6⟩ := setRowW_of (forceCs_iff.1 h4)
   refine ⟨_, by simp only [St.takeN, h1, h3, h5]; rfl, ?_⟩
   have h7 := normW_of h6
   have h8 : (⟨(((stOf n e rs).fresh L ⟨false, [.own (.sl sz ds)]⟩).setRoot b ⟨m, row'⟩).tmps.map (reT b p q L), (((stOf n e rs).fresh L ⟨false, [.own (.sl sz ds)]⟩).setRoot b ⟨m, row'⟩).roots⟩ : St) =
     stOf n (.app (reT b p q L) :: .app (killK L) :: e) (takeR rs L sz ds b m row') := by
    rw [← stOf_app (rs := (takeR rs L sz ds b m row')), ← stOf_app (rs := rs)]
    rfl
   exact ⟨_, _, h8, h7⟩
  ·exact h4.elim
 ·exact h4.elim
inductive MakeW (n n' : Int) (k : Nat → Prop) : Prop
 | mk (m : Nat) (h : n = m) (h' : n' = m) (hm : m ≤ 134217728) (c : k m)
structure AppP (ds ns : List D) (k : Prop) : Prop where
 plain : ∀ d ∈ ns, isPlain d
 len : ds.length + ns.length ≤ 134217728
 c : k
structure AppO (ds ns : List D) (k : Prop) : Prop where
 nh : ∀ d ∈ ns, ∀ c ∈ d.row, c ≠ .hole
 len : ds.length + ns.length ≤ 134217728
 c : k
def zOfW (P : Program) (t : TypeId) (k : Nat → Prop) : Prop := match P.underlying t with
 | some (.slice e) => sizeW P e k
 | _ => k 1
theorem zOfW_of {P : Program} {t : TypeId} {k : Nat → Prop} (h : zOfW P t k) : ∃ z, k z := by
 unfold zOfW at h
 split at h
 ·obtain ⟨s, _, h⟩ := sizeW_of h; exact ⟨s, h⟩
 ·exact ⟨1, h⟩
def zeroW (P : Program) (t : TypeId) (k : TypeInfo → Value → List D → Prop) : Prop := match P.info? t with
 | some i => (match i.zero with
  | some z => (match zeroD P 6 t with
   | some row => forceDs row fun row => BR (zsOk z.cells.toList row) (k i z row) False
   | none => False)
  | none => False)
 | none => False
theorem zeroW_of {P : Program} {t : TypeId} {k : TypeInfo → Value → List D → Prop} (h : zeroW P t k) : ∃ i z row, P.info? t = some i ∧ i.zero = some z ∧ zeroD P 6 t = some row ∧ z.cells.toList = row.map zeroV ∧ row.all zeroOk = true ∧ k i z row := by
 unfold zeroW at h
 split at h
 ·rename_i i h1
  split at h
  ·rename_i z h2
   split at h
   ·rename_i row h3
    obtain ⟨h4, h5⟩ := BR_yes (forceDs_iff.1 h)
    exact ⟨i, z, row, h1, h2, h3, (zsOk_eq h4).1, (zsOk_eq h4).2, h5⟩
   ·exact h.elim
  ·exact h.elim
 ·exact h.elim
def allV : List D → Bool
 | [] => true
 | d :: l => (match d with | .v _ => true | _ => false) && allV l
def dstW (dst : Option Nat) (k : Nat → Prop) : Prop := match dst with | some i => k i | none => False
theorem dstW_of {dst : Option Nat} {k : Nat → Prop} (h : dstW dst k) : ∃ i, dst = some i ∧ k i := by
 cases dst with
 | none => exact h.elim
 | some i => exact ⟨i, rfl, h⟩
def boxCsW (k : Nat) : List C → (List C → Prop) → Prop
 | [], K => K []
 | c :: l, K => forceC (boxC k c) fun c => boxCsW k l fun l => K (c :: l)
theorem boxCsW_of {k : Nat} : ∀ {l : List C} {K : List C → Prop}, boxCsW k l K → K (l.map (boxC k))
 | [], K, h => h
 | c :: l, K, h => boxCsW_of (l := l) (forceC_iff.1 h)
def boxW (P : Program) (n : Nat) (e : List En) (rs : Rs) (k : Nat) (t : TypeId) (x : Operand) (K : Kn) : Prop := zOfW P t fun z => opdW n e z x fun v => match v with
 | .one (.c c) => (match c with
  | .dead => False
  | .ro d => boxCsW k [.ro d] fun row => freshW k true row e rs fun e rs => K (.set k (.one (.ptr ⟨k, [], 0⟩)) :: e) rs
  | .own d => False
  | .ref pl => boxCsW k [.ref pl] fun row => freshW k true row e rs fun e rs => K (.set k (.one (.ptr ⟨k, [], 0⟩)) :: e) rs)
 | .one (.agg cs) => boxCsW k cs fun row => freshW k true row e rs fun e rs => K (.set k (.one (.ptr ⟨k, [], 0⟩)) :: e) rs
 | _ => False
theorem opd0_agg {st : St} {z : Nat} {x : Operand} {cs : List C} (h : T.opd z st x = some (.one (.agg cs))) : T.opd 0 st x = some (.one (.agg cs)) := by
 cases x with
 | const v =>
  simp only [opd] at h
  split at h
  ·simp at h
  ·split at h <;> simp at h
 | tmp t => exact h
 | func f => exact h
 | global g => exact h
section
variable {P : Program} {w0 : World} {g0 : Gh} {n : Nat} {e : List En} {rs : Rs} {o : Oper} {K : Kn}
theorem fresh_put {k : Nat} {m : Bool} {row : List C} {t : TS} (h : freshW k m row e rs fun e rs => K (.set k t :: e) rs) : k < 1000000 ∧ Lg n K (((stOf n e rs).fresh k ⟨m, row⟩).put (some k) t) := by
 obtain ⟨h1, e', rs', h2, h3⟩ := freshW_of (n := n) h
 exact ⟨h1, by rw [h2]; exact .put h3⟩
theorem boxW_of {k : Nat} {t : TypeId} {x : Operand} (ho : o.op = .box t x) (hd : o.dst = some k) (h : boxW P n e rs k t x K) : OpT P w0 g0 o (stOf n e rs) (Lg n K) := by
 obtain ⟨z, h1⟩ := zOfW_of h
 obtain ⟨v, h2, h3⟩ := opdW_of (rs := rs) h1
 split at h3
 ·split at h3
  ·exact h3.elim
  ·obtain ⟨h4, h5⟩ := fresh_put (n := n) (boxCsW_of h3)
   exact .box ho hd h2 (by simp) h5 h4
  ·exact h3.elim
  ·obtain ⟨h4, h5⟩ := fresh_put (n := n) (boxCsW_of h3)
   exact .box ho hd h2 (by simp) h5 h4
 ·obtain ⟨h4, h5⟩ := fresh_put (n := n) (boxCsW_of h3)
  exact .boxAgg ho hd (opd0_agg h2) h5 h4
 ·exact h3.elim
def allocW (P : Program) (k : Nat) (t : TypeId) (e : List En) (rs : Rs) (K : Kn) : Prop := zeroW P t fun _ _ row => ownsW row fun cs => freshW k true cs e rs fun e rs => K (.set k (.one (.ptr ⟨k, [], 0⟩)) :: e) rs
theorem allocW_of {k : Nat} {t : TypeId} (ho : o.op = .alloc t) (hd : o.dst = some k) (h : allocW P k t e rs K) : OpT P w0 g0 o (stOf n e rs) (Lg n K) := by
 obtain ⟨i, z, row, h1, h2, h3, h4, h5, h6⟩ := zeroW_of h
 obtain ⟨h7, h8⟩ := fresh_put (n := n) (ownsW_of h6)
 exact .alloc ho hd (by rw [h1]; exact h2) h3 h4 h5 h8 h7
def dOfW (row : List D) (k : D → Prop) : Prop := match row with
 | [] => k (.st [])
 | x :: l => (match l with
  | [] => (match x with | .v y => k (.v y) | .sl s ds => k (.sl s ds) | _ => False)
  | y :: l => k (.st (x :: y :: l)))
theorem dOfW_of {row : List D} {k : D → Prop} (h : dOfW row k) : ∃ d, d.row = row ∧ k d := by
 unfold dOfW at h
 split at h
 ·exact ⟨_, rfl, h⟩
 ·split at h
  ·split at h
   ·exact ⟨_, rfl, h⟩
   ·exact ⟨_, rfl, h⟩
   ·exact h.elim
  ·exact ⟨_, rfl, h⟩
def makeW (P : Program) (n : Nat) (e : List En) (rs : Rs) (k : Nat) (t : TypeId) (x y : Operand) (K : Kn) : Prop := match P.underlying t with
 | some (.slice el) => opdW n e 0 x fun a => i64W a fun m => opdW n e 0 y fun b => i64W b fun m' => zeroW P el fun i z row => oneOf i.size small fun sz => BR (Nat.ble i.bytes 1048576 && Nat.beq row.length sz) (dOfW row fun d => MakeW m m' fun m => ownW [k] k sz (List.replicate m d) e rs K) False
 | _ => False
theorem makeW_of {k : Nat} {t : TypeId} {x y : Operand} (ho : o.op = .makeSlice t x y) (hd : o.dst = some k) (h : makeW P n e rs k t x y K) : OpT P w0 g0 o (stOf n e rs) (Lg n K) := by
 unfold makeW at h
 split at h
 ·rename_i el hu
  obtain ⟨a, h1, h2⟩ := opdW_of (rs := rs) h
  obtain ⟨m, rfl, h3⟩ := i64W_of h2
  obtain ⟨b, h4, h5⟩ := opdW_of (rs := rs) h3
  obtain ⟨m', rfl, h6⟩ := i64W_of h5
  obtain ⟨i, z, row, h9, h10, h11, h12, h13, h14⟩ := zeroW_of h6
  obtain ⟨h15, h16⟩ := BR_yes (oneOf_of h14)
  simp only [Bool.and_eq_true] at h15
  obtain ⟨d, h17, h18⟩ := dOfW_of h16
  obtain ⟨m, rfl, rfl, h19, h20⟩ := h18
  obtain ⟨h21, h22⟩ := ownW_of (n := n) h20
  exact .makeE ho hd h1 h4 hu h9 h10 rfl h15.1 h11 h12 h13 (Nat.eq_of_beq_eq_true h15.2) h17 (Int.natCast_nonneg _) (by omega) h22 h21
 ·exact h.elim
def numbered : Nat → List (Nat × Operand) → (List Operand → Prop) → Prop
 | _, [], k => k []
 | i, (j, x) :: l, k => BR (Nat.beq j i) (numbered (i + 1) l fun xs => k (x :: xs)) False
theorem numbered_of : ∀ {l : List (Nat × Operand)} {i : Nat} {k : List Operand → Prop}, numbered i l k → ∃ xs, l = (xs.zipIdx i).map (fun x => (x.2, x.1)) ∧ k xs
 | [], i, k, h => ⟨[], rfl, h⟩
 | (j, x) :: l, i, k, h => by
  obtain ⟨h1, h2⟩ := BR_yes h
  obtain ⟨xs, h3, h4⟩ := numbered_of (l := l) h2
  have h1 := Nat.eq_of_beq_eq_true h1
  subst h1
  exact ⟨x :: xs, by simp [List.zipIdx_cons, h3], h4⟩
def valsW (n : Nat) (e : List En) : List Operand → (List TV → Prop) → Prop
 | [], k => k []
 | x :: l, k => opdW n e 0 x fun t => match t with
  | .one tv => valsW n e l fun l => k (tv :: l)
  | _ => False
theorem valsW_of {n : Nat} {e : List En} {rs : Rs} : ∀ {l : List Operand} {k : List TV → Prop}, valsW n e l k → ∃ tvs, T.vals 0 (stOf n e rs) l = some tvs ∧ k tvs
 | [], k, h => ⟨[], rfl, h⟩
 | x :: l, k, h => by
  obtain ⟨t, h1, h2⟩ := opdW_of (rs := rs) h
  split at h2
  ·obtain ⟨tvs, h3, h4⟩ := valsW_of (rs := rs) (l := l) h2
   exact ⟨_, by simp [T.vals, h1, h3], h4⟩
  ·exact h2.elim
def elDW (t : TV) (k : D → Prop) : Prop := match t with
 | .c c => (match c with
  | .ro d => (match d with
   | .v x => k (.v x)
   | .sl _ _ => k .hole
   | .st _ => k .hole
   | .hole => k .hole)
  | .own _ => k .hole
  | .ref _ => k .hole
  | .dead => k .hole)
 | .agg cs => forceDs (cs.map cellD) fun ds => k (.st ds)
 | .ptr _ => k .hole
 | .cptr _ => k .hole
 | .tab _ => k .hole
 | .ptab _ => k .hole
 | .cut _ _ _ _ => k .hole
 | .dead => k .hole
theorem elDW_of {t : TV} {k : D → Prop} (h : elDW t k) : k (elD t) := by
 cases t with
 | c c =>
  cases c with
  | ro d => cases d <;> exact h
  | own d => exact h
  | ref s => exact h
  | dead => exact h
 | agg cs => exact forceDs_iff.1 h
 | ptr _ => exact h
 | cptr _ => exact h
 | tab _ => exact h
 | ptab _ => exact h
 | cut _ _ _ _ => exact h
 | dead => exact h
def elDsW : List TV → (List D → Prop) → Prop
 | [], k => k []
 | t :: l, k => elDW t fun d => elDsW l fun l => k (d :: l)
theorem elDsW_of : ∀ {l : List TV} {k : List D → Prop}, elDsW l k → k (l.map elD)
 | [], k, h => h
 | t :: l, k, h => elDsW_of (l := l) (elDW_of h)
def adoptW (k : Nat) : Nat → List C → Nat → List En → Rs → Kn → Prop
 | _, [], _, e, rs, K => K e rs
 | 0, _ :: _, _, _, _, _ => False
 | n + 1, c :: cs, j, e, rs, K => match c with
  | .ro d => (match d with
   | .v _ => adoptW k n cs (j + 1) e rs K
   | _ => False)
  | .ref s => cellW rs k [(0, 0)] j fun _ _ => store1W k [(0, 0)] j (.ref s) e rs fun e rs => forceCs (cs.map (C.kill (hitR k [(0, 0)] j))) fun cs => adoptW k n cs (j + 1) e rs K
  | _ => False
theorem adopt_map {k : Nat} {g : C → C} : ∀ {cs : List C} {f : C → C} {j : Nat} {st : St}, St.adopt k (cs.map g) f j st = St.adopt k cs (fun c => f (g c)) j st
 | [], f, j, st => rfl
 | c :: cs, f, j, st => by
  simp only [St.adopt, List.map_cons]
  generalize f (g c) = c'
  cases c' with
  | ro d =>
   cases d with
   | v x => exact adopt_map (cs := cs)
   | sl _ _ => rfl
   | st _ => rfl
   | hole => rfl
  | ref s =>
   simp only
   cases st.cellAt ⟨k, [(0, 0)], j⟩ with
   | none => rfl
   | some c0 =>
    simp only
    cases st.store1 ⟨k, [(0, 0)], j⟩ (.ref s) with
    | none => rfl
    | some st' => exact adopt_map (cs := cs)
  | own d => rfl
  | dead => rfl
theorem adoptW_of {k : Nat} : ∀ {m : Nat} {cs : List C} {j : Nat} {e : List En} {rs : Rs} {K : Kn}, adoptW k m cs j e rs K → ∃ st', St.adopt k cs id j (stOf n e rs) = some st' ∧ Lg n K st'
 | m, [], j, e, rs, K, h => ⟨_, rfl, .mk (by cases m <;> exact h)⟩
 | 0, _ :: _, j, e, rs, K, h => h.elim
 | m + 1, c :: cs, j, e, rs, K, h => by
  unfold adoptW at h
  split at h
  ·split at h
   ·obtain ⟨st', h1, h2⟩ := adoptW_of (m := m) (cs := cs) h
    exact ⟨st', by simp only [St.adopt, id_eq]; exact h1, h2⟩
   ·exact h.elim
  ·rename_i s
   obtain ⟨_, c0, h1, _, h2⟩ := cellW_of (n := n) (e := e) h
   obtain ⟨st', h3, e', rs', h4, h5⟩ := store1W_of (n := n) h2
   subst h4
   obtain ⟨st2, h6, h7⟩ := adoptW_of (m := m) (cs := cs.map (C.kill (hitR k [(0, 0)] j))) (forceCs_iff.1 h5)
   refine ⟨st2, ?_, h7⟩
   rw [adopt_map] at h6
   simp only [St.adopt, id_eq, h1, h3]
   exact h6
  ·exact h.elim
def sliceOfW (P : Program) (n : Nat) (e : List En) (rs : Rs) (k : Nat) (t : TypeId) (len : Nat) (parts : List (Nat × Operand)) (K : Kn) : Prop := match P.underlying t with
 | some (.slice el) => zeroW P el fun i z row => oneOf i.size small fun sz => (match parts with
  | [] => BR (Nat.beq len 0) (ownW [k] k sz [] e rs K) False
  | p :: ps => BR (Nat.ble 1 sz) (match ps with
   | [] => BR (Nat.beq len 1 && Nat.beq p.1 0 && Nat.ble sz 16777216) (zOfW P el fun zz => opdW n e zz p.2 fun t => match t with
    | .one tv => BR (aliveV sz tv) (elDW tv fun d => renewW [k] k [.own (.sl sz [d])] e rs fun e rs => forceCs ((cellsV tv).map (C.kill fun pl => pl.k == k)) fun cs => adoptW k 40 cs 0 e rs fun e rs => K (.set k (.one (.c (.ref ⟨k, [], 0⟩))) :: e) rs) False
    | _ => False) False
   | q :: ps => BR (Nat.ble (len * sz) 16777216) (numbered 0 (p :: q :: ps) fun xs => BR (Nat.beq xs.length len) (valsW n e xs fun tvs => BR (tvs.all (aliveV sz)) (elDsW tvs fun ds => ownW [k] k sz ds e rs K) False) False) False) False)
 | _ => False
theorem bind_zero {t : TypeId} {i : TypeInfo} {z : Value} (h : P.info? t = some i) (h1 : i.zero = some z) : (P.info? t).bind (·.zero) = some z := by rw [h]; exact h1
theorem opd_only {st : St} {z : Nat} {x : Operand} {ks : List Nat} : T.opd z (st.only ks) x = T.opd z st x := by cases x <;> rfl
theorem vals_only {st : St} {z : Nat} {ks : List Nat} : ∀ {xs : List Operand}, T.vals z (st.only ks) xs = T.vals z st xs
 | [] => rfl
 | x :: xs => by simp only [T.vals, opd_only, vals_only]
theorem sliceOfW_of {m : Bool} {k len : Nat} {t : TypeId} {parts : Array (Nat × Operand)} (ho : o.op = .buildSlice t len parts) (hd : o.dst = some k) (h : sliceOfW P n e rs k t len parts.toList K) : OpX m P w0 g0 o (stOf n e rs) (Lg n K) := by
 unfold sliceOfW at h
 split at h
 ·rename_i el hu
  obtain ⟨i, z, row, h1, h2, h3, h4, h5, h6⟩ := zeroW_of h
  have h6 := oneOf_of h6
  have hs : sizeT P el = some i.size := by simp [sizeT, h1]
  split at h6
  ·rename_i hp
   obtain ⟨h7, h8⟩ := BR_yes h6
   have h7 := Nat.eq_of_beq_eq_true h7
   subst h7
   have hp' : parts = #[] := Array.ext' (by simpa using hp)
   subst hp'
   obtain ⟨h9, h10⟩ := ownW_of (n := n) h8
   exact .of (OpM.of (build_value ho) (fun w0 g0 => ⟨_, OpT.build0 ho hd hu hs rfl h9⟩) (OpT.build0 ho hd hu hs h10 h9))
  ·rename_i p ps hp
   obtain ⟨h7, h8⟩ := BR_yes h6
   have h7 := Nat.le_of_ble_eq_true h7
   split at h8
   ·obtain ⟨h9, h10⟩ := BR_yes h8
    simp only [Bool.and_eq_true] at h9
    have h91 := Nat.eq_of_beq_eq_true h9.1.1
    have h92 := Nat.eq_of_beq_eq_true h9.1.2
    subst h91
    obtain ⟨i0, x⟩ := p
    simp only at h92
    subst h92
    have hp' : parts = #[(0, x)] := Array.ext' (by simpa using hp)
    subst hp'
    obtain ⟨zz, h11⟩ := zOfW_of h10
    obtain ⟨t', h12, h13⟩ := opdW_of (rs := rs) h11
    split at h13
    ·rename_i tv
     obtain ⟨h14, h15⟩ := BR_yes h13
     obtain ⟨h16, e', rs', h17, h18⟩ := renewW_of (n := n) (elDW_of h15)
     obtain ⟨st', h19, e2, rs2, h20, h21⟩ := adoptW_of (n := n) (forceCs_iff.1 h18)
     have hsz : i.size ≤ 16777216 := Nat.le_of_ble_eq_true h9.2
     have hT : OpT P w0 g0 o (stOf n e rs) (Lg n K) := by
      refine .build1 ho hd h12 hu hs (bind_zero h1 h2) h14 h7 hsz (st' := st') ?_ ?_ h16
      ·rw [adopt_map] at h19
       rw [h17]
       exact h19
      ·rw [h20]; exact .put h21
     exact .of (OpM.build1 ho ⟨k, hd, h16⟩ h12 hu hs (bind_zero h1 h2) h14 h7 hsz hT)
    ·exact h13.elim
   ·obtain ⟨h9, h10⟩ := BR_yes h8
    obtain ⟨xs, h11, h12⟩ := numbered_of h10
    obtain ⟨h13, h14⟩ := BR_yes h12
    have h13 := Nat.eq_of_beq_eq_true h13
    obtain ⟨tvs, h15, h16⟩ := valsW_of (rs := rs) h14
    obtain ⟨h17, h18⟩ := BR_yes h16
    obtain ⟨h19, h20⟩ := ownW_of (n := n) (elDsW_of h18)
    exact .of (OpM.of (build_value ho) (fun w0 g0 => ⟨_, OpT.buildP ho hd (by rw [hp]; exact h11) h13 (by rw [vals_only]; exact h15) hu hs (bind_zero h1 h2) h17 h7 (Nat.le_of_ble_eq_true h9) rfl h19⟩)
     (OpT.buildP ho hd (by rw [hp]; exact h11) h13 h15 hu hs (bind_zero h1 h2) h17 h7 (Nat.le_of_ble_eq_true h9) h20 h19))
 ·exact h.elim
end
end Go.Proofs.Ytcmoifejjodgcaa.T

