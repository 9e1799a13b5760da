/- The lifted walk, part a: plain data, places, who may write a block, what it means that memory bears them, and what keeps that. No condition. -/
import Derived.WalkKit
import Derived.ProofKit
import Derived.OpenShut
import Derived.Lib.Hide
namespace Go.Proofs.YtdlpmcjpbcbbjaaDoor.T
open Go
set_option linter.unusedVariables false
set_option linter.unusedSimpArgs false

/-- Plain data: a cell that holds no address, a slice (cells per element, elements), a struct's cells in a row, a cell whose content was moved away. -/
inductive D where
  | v (x : Value)
  | sl (sz : Nat) (ds : List D)
  | st (ds : List D)
  | hole
  deriving Inhabited

def D.row : D → List D
  | .st ds => ds
  | d => [d]

def plain : Value → Bool
  | .bool _ | .int _ _ | .string _ => true
  | _ => false

/-- A cell's place: a root, the way through slices (the slice's cell, the element), the cell in the last row. -/
structure Pl where
  k : Nat
  p : List (Nat × Nat)
  q : Nat

/-- Who may write a block. -/
inductive Tag where
  | ro
  | outer
  | box (k : Nat)
  | lies (k : Nat) (p : List (Nat × Nat)) (q : Nat)

def Tag.root? : Tag → Option Nat
  | .box k => some k
  | .lies k _ _ => some k
  | _ => none

structure Gh where
  o : Nat → Tag
  ad : Nat → List (Nat × Nat) → Nat × Nat
  cv : Nat → List (Nat × Nat) → Nat → Value

def cellAddr (x : Nat × Nat) (q : Nat) : Addr := ⟨x.1, x.2 + q, none⟩

/-- The greatest length that a list takes here. -/
def most : Nat := 9223372036854775807

/-- A value reads as data in memory that nobody writes any more. -/
inductive Ro (w : World) (o : Nat → Tag) : D → Value → Prop
  | v (x : Value) (h : plain x = true) : Ro w o (.v x) x
  | nil (sz : Nat) (ad : Option Addr) (c : Nat) : Ro w o (.sl sz []) (.slice ad 0 c)
  | sl (sz : Nat) (ds : List D) (b off n c : Nat) (us : Nat → Value) (hn : ds.length = n) (hm : n ≤ most) (ho : o b = .ro)
      (hrow : ∀ d ∈ ds, d.row.length = sz)
      (hcell : ∀ t, t < n * sz → w.cell? ⟨b, off + t, none⟩ = some (us t))
      (hel : ∀ (i : Nat) d, ds[i]? = some d → ∀ (j : Nat) c', d.row[j]? = some c' → Ro w o c' (us (i * sz + j))) : Ro w o (.sl sz ds) (.slice (some ⟨b, off, none⟩) n c)

/-- The cell at a place holds data in memory that belongs to that place. -/
inductive Ow (w : World) (g : Gh) (k : Nat) : List (Nat × Nat) → Nat → D → Prop
  | v (p : List (Nat × Nat)) (q : Nat) (x : Value) (h : plain x = true) (hc : g.cv k p q = x) : Ow w g k p q (.v x)
  | hole (p : List (Nat × Nat)) (q : Nat) : Ow w g k p q .hole
  | nil (p : List (Nat × Nat)) (q : Nat) (sz : Nat) (hc : g.cv k p q = .slice none 0 0) : Ow w g k p q (.sl sz [])
  | sl (p : List (Nat × Nat)) (q : Nat) (sz : Nat) (ds : List D) (b off n c : Nat) (cs : Array Value) (e : TypeId)
      (hc : g.cv k p q = .slice (some ⟨b, off, none⟩) n c) (hn : ds.length = n) (hm : n ≤ most) (hnc : n ≤ c) (hcm : c ≤ 9223372036854775807) (ho : g.o b = .lies k p q)
      (hb : w.heap[b]? = some (.cells cs e (0, 0))) (hfit : off + c * sz ≤ cs.size)
      (hrow : ∀ d ∈ ds, d.row.length = sz)
      (had : ∀ i, i < n → g.ad k (p ++ [(q, i)]) = (b, off + i * sz))
      (hcell : ∀ i j, i < n → j < sz → w.cell? ⟨b, off + i * sz + j, none⟩ = some (g.cv k (p ++ [(q, i)]) j))
      (hel : ∀ (i : Nat) d, ds[i]? = some d → ∀ (j : Nat) c', d.row[j]? = some c' → Ow w g k (p ++ [(q, i)]) j c') : Ow w g k p q (.sl sz ds)

/-- A cell of a root or of a value. -/
inductive C where
  | ro (d : D)
  | own (d : D)
  | ref (pl : Pl)
  | dead

/-- A value: one cell, a struct's cells, a pointer to a place, a pointer to data that nobody writes, one that is not known. -/
inductive TV where
  | c (c : C)
  | agg (cs : List C)
  | ptr (pl : Pl)
  | cptr (ds : List D)
  | tab (pls : List Pl)
  | ptab (pls : List Pl)
  | dead

/-- A slot's value: also several results, and a function with what it captured. -/
inductive TS where
  | one (t : TV)
  | tup (ts : List TV)
  | fn (f : FuncId) (caps : List TV)

structure Rt where
  mem : Bool
  row : List C

structure St where
  tmps : List TS
  roots : List (Nat × Rt)

def St.root (st : St) (k : Nat) : Option Rt := (st.roots.find? fun x => x.1 == k).map (·.2)

/-- A root's cell. -/
def RepC (w : World) (g : Gh) (k q : Nat) : C → Prop
  | .ro d => Ro w g.o d (g.cv k [] q)
  | .own d => Ow w g k [] q d
  | .ref pl => g.cv k [] q = g.cv pl.k pl.p pl.q ∧ (g.cv k [] q).oneCell' = true
  | .dead => True

/-- A cell as a value (a value owns nothing: it refers to a root's cell). -/
def RepV (w : World) (g : Gh) : C → Value → Prop
  | .ro d, u => Ro w g.o d u
  | .own _, _ => False
  | .ref pl, u => u = g.cv pl.k pl.p pl.q ∧ u.oneCell' = true
  | .dead, _ => True

inductive RepT (w : World) (g : Gh) : TV → Value → Prop
  | c (c : C) (u : Value) (h : RepV w g c u) : RepT w g (.c c) u
  | agg (cs : List C) (us : Array Value) (hs : us.size = cs.length) (h : ∀ (j : Nat) c u, cs[j]? = some c → us[j]? = some u → RepV w g c u) : RepT w g (.agg cs) (.agg us)
  | ptr (pl : Pl) : RepT w g (.ptr pl) (.pointer (some (cellAddr (g.ad pl.k pl.p) pl.q)))
  | cptr (ds : List D) (b off : Nat) (us : Nat → Value) (ho : g.o b = .ro) (hcell : ∀ (j : Nat) d, ds[j]? = some d → w.cell? ⟨b, off + j, none⟩ = some (us j) ∧ Ro w g.o d (us j)) :
      RepT w g (.cptr ds) (.pointer (some ⟨b, off, none⟩))
  | tab (pls : List Pl) (b off : Nat) (ho : g.o b = .ro) (hcell : ∀ (j : Nat) pl, pls[j]? = some pl → w.cell? ⟨b, off + j, none⟩ = some (.pointer (some (cellAddr (g.ad pl.k pl.p) pl.q)))) :
      RepT w g (.tab pls) (.slice (some ⟨b, off, none⟩) pls.length pls.length)
  | ptab (pls : List Pl) (b off : Nat) (ho : g.o b = .ro) (hcell : ∀ (j : Nat) pl, pls[j]? = some pl → w.cell? ⟨b, off + j, none⟩ = some (.pointer (some (cellAddr (g.ad pl.k pl.p) pl.q)))) :
      RepT w g (.ptab pls) (.pointer (some ⟨b, off, none⟩))
  | dead (u : Value) : RepT w g .dead u

inductive RepS (w : World) (g : Gh) : TS → Value → Prop
  | one (t : TV) (u : Value) (h : RepT w g t u) : RepS w g (.one t) u
  | tup (ts : List TV) (us : Array Value) (hs : us.size = ts.length) (h : ∀ (j : Nat) t u, ts[j]? = some t → us[j]? = some u → RepT w g t u) : RepS w g (.tup ts) (.tuple us)
  | fn (f : FuncId) (caps : List TV) (us : Array Value) (hs : us.size = caps.length) (h : ∀ (j : Nat) t u, caps[j]? = some t → us[j]? = some u → RepT w g t u) : RepS w g (.fn f caps) (.func (.func f) #[] us)

/-- Memory bears the roots. -/
structure RepR (w : World) (g : Gh) (roots : Nat → Option Rt) : Prop where
  cell : ∀ k r, roots k = some r → ∀ (q : Nat) c, r.row[q]? = some c → RepC w g k q c
  mem : ∀ k r, roots k = some r → r.mem = true → g.o (g.ad k []).1 = .box k ∧ (∃ cs e, w.heap[(g.ad k []).1]? = some (.cells cs e (0, 0))) ∧
    ∀ q, q < r.row.length → w.cell? (cellAddr (g.ad k []) q) = some (g.cv k [] q)

/-- Two roots' names that a function keeps for what its caller hands to it: lists, and a box. -/
abbrev pinK : Nat := 1000000
abbrev pinB : Nat := 1000001

/-- What a call leaves as it was: every old block that is nobody's here. -/
structure Keeps (w0 : World) (g0 : Gh) (w : World) (g : Gh) : Prop where
  os : w.os = w0.os
  tape : w.tape = w0.tape
  output : w.output = w0.output
  size : w0.heap.size ≤ w.heap.size
  block : ∀ b, b < w0.heap.size → (g0.o b = .ro ∨ g0.o b = .outer) → w.heap[b]? = w0.heap[b]? ∧ g.o b = g0.o b
  fresh : ∀ b, w.heap.size ≤ b → g.o b = .outer
  old : ∀ b, b < w.heap.size → g.o b = .outer → b < w0.heap.size ∧ g0.o b = .outer
  pin : (∀ q, g.cv pinK [] q = g0.cv pinK [] q) ∧ g.ad pinB [] = g0.ad pinB []
  nobox : ∀ b, g.o b ≠ .box pinK

structure Rel (w0 : World) (g0 : Gh) (st : St) (a : Act) (w : World) (g : Gh) : Prop where
  tm : ∀ (i : Nat) tv, st.tmps[i]? = some tv → RepS w g tv (a.tmps.getD i undef)
  sz : a.tmps.size = st.tmps.length
  df : a.defers = []
  rt : RepR w g st.root
  ks : Keeps w0 g0 w g

/- WHAT KEEPS IT: a change of world and owners that leaves alone what nobody writes, and the roots that are kept. -/
structure Same (w : World) (g : Gh) (w' : World) (g' : Gh) (keep : Nat → Prop) : Prop where
  ro : ∀ b, g.o b = .ro → g'.o b = .ro ∧ w'.heap[b]? = w.heap[b]?
  own : ∀ k, keep k → ∀ b, (g.o b).root? = some k → g'.o b = g.o b ∧ w'.heap[b]? = w.heap[b]?
  ad : ∀ k, keep k → g'.ad k = g.ad k
  cv : ∀ k, keep k → g'.cv k = g.cv k

theorem cell_eq {w w' : World} {b : Nat} (h : w'.heap[b]? = w.heap[b]?) (t : Nat) : w'.cell? ⟨b, t, none⟩ = w.cell? ⟨b, t, none⟩ := by simp [World.cell?, h]

theorem Ro.mono {w w' : World} {o o' : Nat → Tag} (h : ∀ b, o b = .ro → o' b = .ro ∧ w'.heap[b]? = w.heap[b]?) {d : D} {v : Value} (hr : Ro w o d v) : Ro w' o' d v := by
  induction hr with
  | v x hx => exact .v x hx
  | nil sz ad c => exact .nil sz ad c
  | sl sz ds b off n c us hn hm ho hrow hcell _ ih =>
    exact .sl sz ds b off n c us hn hm (h b ho).1 hrow (fun t ht => by rw [cell_eq (h b ho).2]; exact hcell t ht) ih

theorem Ow.mono {w w' : World} {g g' : Gh} {keep : Nat → Prop} (h : Same w g w' g' keep) {k : Nat} (hk : keep k) {p : List (Nat × Nat)} {q : Nat} {d : D} (hr : Ow w g k p q d) :
    Ow w' g' k p q d := by
  induction hr with
  | v p q x hx hc => exact .v p q x hx (by rw [h.cv k hk]; exact hc)
  | hole p q => exact .hole p q
  | nil p q sz hc => exact .nil p q sz (by rw [h.cv k hk]; exact hc)
  | sl p q sz ds b off n c cs e hc hn hm hnc hcm ho hb hfit hrow had hcell _ ih =>
    have hs := h.own k hk b (by rw [ho]; rfl)
    refine .sl p q sz ds b off n c cs e (by rw [h.cv k hk]; exact hc) hn hm hnc hcm (by rw [hs.1]; exact ho) (by rw [hs.2]; exact hb) hfit hrow
      (fun i hi => by rw [h.ad k hk]; exact had i hi) (fun i j hi hj => by rw [cell_eq hs.2, h.cv k hk]; exact hcell i j hi hj) ih

def C.over (f : Nat → Prop) : C → Prop
  | .ref pl => f pl.k
  | _ => True
def TV.over (f : Nat → Prop) : TV → Prop
  | .c x => x.over f
  | .agg cs => ∀ c ∈ cs, c.over f
  | .ptr pl => f pl.k
  | .tab pls => ∀ pl ∈ pls, f pl.k
  | .ptab pls => ∀ pl ∈ pls, f pl.k
  | _ => True
def TS.over (f : Nat → Prop) : TS → Prop
  | .one t => t.over f
  | .tup ts => ∀ t ∈ ts, t.over f
  | .fn _ ts => ∀ t ∈ ts, t.over f

theorem RepV.mono {w w' : World} {g g' : Gh} {keep : Nat → Prop} (h : Same w g w' g' keep) {c : C} {u : Value} (ho : c.over keep) (hr : RepV w g c u) : RepV w' g' c u := by
  cases c with
  | ro d => exact Ro.mono h.ro hr
  | own d => exact hr
  | ref pl => have h1 : u = g.cv pl.k pl.p pl.q ∧ u.oneCell' = true := hr; show u = g'.cv pl.k pl.p pl.q ∧ u.oneCell' = true; rw [h.cv _ ho]; exact h1
  | dead => trivial

theorem RepT.mono {w w' : World} {g g' : Gh} {keep : Nat → Prop} (h : Same w g w' g' keep) {t : TV} {u : Value} (ho : t.over keep) (hr : RepT w g t u) : RepT w' g' t u := by
  cases hr with
  | c c u hv => exact .c c u (hv.mono h ho)
  | agg cs us hs hv => exact .agg cs us hs fun j c u h1 h2 => (hv j c u h1 h2).mono h (ho c (List.mem_of_getElem? h1))
  | ptr pl => have := RepT.ptr (w := w') (g := g') pl; rw [h.ad _ ho] at this; exact this
  | cptr ds b off us hro hcell =>
    exact .cptr ds b off us (h.ro b hro).1 fun j d hj => ⟨by rw [cell_eq (h.ro b hro).2]; exact (hcell j d hj).1, (hcell j d hj).2.mono h.ro⟩
  | tab pls b off hro hcell =>
    exact .tab pls b off (h.ro b hro).1 fun j pl hj => by rw [cell_eq (h.ro b hro).2, hcell j pl hj, h.ad _ (ho pl (List.mem_of_getElem? hj))]
  | ptab pls b off hro hcell =>
    exact .ptab pls b off (h.ro b hro).1 fun j pl hj => by rw [cell_eq (h.ro b hro).2, hcell j pl hj, h.ad _ (ho pl (List.mem_of_getElem? hj))]
  | dead u => exact .dead u

theorem RepS.mono {w w' : World} {g g' : Gh} {keep : Nat → Prop} (h : Same w g w' g' keep) {t : TS} {u : Value} (ho : t.over keep) (hr : RepS w g t u) : RepS w' g' t u := by
  cases hr with
  | one t u hv => exact .one t u (hv.mono h ho)
  | tup ts us hs hv => exact .tup ts us hs fun j t u h1 h2 => (hv j t u h1 h2).mono h (ho t (List.mem_of_getElem? h1))
  | fn f ts us hs hv => exact .fn f ts us hs fun j t u h1 h2 => (hv j t u h1 h2).mono h (ho t (List.mem_of_getElem? h1))

theorem RepC.mono {w w' : World} {g g' : Gh} {keep : Nat → Prop} (h : Same w g w' g' keep) {k q : Nat} {c : C} (hk : keep k) (ho : c.over keep) (hr : RepC w g k q c) : RepC w' g' k q c := by
  cases c with
  | ro d => have : Ro w g.o d (g.cv k [] q) := hr; show Ro w' g'.o d (g'.cv k [] q); rw [h.cv k hk]; exact this.mono h.ro
  | own d => exact Ow.mono h hk hr
  | ref pl => have h1 : g.cv k [] q = g.cv pl.k pl.p pl.q ∧ (g.cv k [] q).oneCell' = true := hr; show g'.cv k [] q = g'.cv pl.k pl.p pl.q ∧ (g'.cv k [] q).oneCell' = true; rw [h.cv k hk, h.cv _ ho]; exact h1
  | dead => trivial

/-- Roots that are kept, and whose cells refer to kept roots alone. -/
theorem RepR.mono {w w' : World} {g g' : Gh} {keep : Nat → Prop} {roots : Nat → Option Rt} (h : Same w g w' g' keep)
    (hr : RepR w g roots) (hk : ∀ k r, roots k = some r → keep k ∧ ∀ c ∈ r.row, c.over keep) : RepR w' g' roots := by
  refine ⟨fun k r hkr q c hq => (hr.cell k r hkr q c hq).mono h (hk k r hkr).1 ((hk k r hkr).2 c (List.mem_of_getElem? hq)), fun k r hkr hm => ?_⟩
  obtain ⟨h1, ⟨cs, e, h2⟩, h3⟩ := hr.mem k r hkr hm
  have hkk := (hk k r hkr).1
  have hs := h.own k hkk (g.ad k []).1 (by rw [h1]; rfl)
  rw [h.ad k hkk, h.cv k hkk]
  exact ⟨by rw [hs.1]; exact h1, ⟨cs, e, by rw [hs.2]; exact h2⟩, fun q hq => by rw [cellAddr, cell_eq hs.2]; exact h3 q hq⟩

end Go.Proofs.YtdlpmcjpbcbbjaaDoor.T
