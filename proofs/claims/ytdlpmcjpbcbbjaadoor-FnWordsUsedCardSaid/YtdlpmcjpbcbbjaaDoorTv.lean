/- The lifted walk, part v: a law's arguments as plain data. No condition. -/
import Derived.Test.YtdlpmcjpbcbbjaaDoorTt
import Derived.ChangeArms
import Derived.Below
namespace Go.Proofs.YtdlpmcjpbcbbjaaDoor.T
open Go
set_option linter.unusedVariables false
set_option linter.unusedSimpArgs false

/-- What a type is made of. -/
inductive Ty where
  | bool
  | int (k : IntKind)
  | str
  | list (e : Ty)
  | st (fs : List Ty)

mutual
def Ty.sz : Ty → Nat
  | .st fs => szL fs
  | _ => 1
def szL : List Ty → Nat
  | [] => 0
  | t :: l => t.sz + szL l
end

mutual
/-- A row of cells of this type. -/
def Ty.is : Ty → List D → Prop
  | .bool, r => ∃ b, r = [.v (.bool b)]
  | .int k, r => ∃ n, r = [.v (.int k n)] ∧ (Lit.int k n).wf = true
  | .str, r => ∃ s : ByteArray, r = [.v (.string s)] ∧ s.size ≤ maxLen
  | .list e, r => ∃ ds, r = [.sl e.sz ds] ∧ ∀ d ∈ ds, e.elem d
  | .st fs, r => isL fs r
/-- An element of a list. -/
def Ty.elem : Ty → D → Prop
  | .st fs, d => ∃ r, d = .st r ∧ isL fs r
  | .bool, d => ∃ b, d = .v (.bool b)
  | .int k, d => ∃ n, d = .v (.int k n) ∧ (Lit.int k n).wf = true
  | .str, d => ∃ s : ByteArray, d = .v (.string s) ∧ s.size ≤ maxLen
  | .list e, d => ∃ ds, d = .sl e.sz ds ∧ ∀ d ∈ ds, e.elem d
def isL : List Ty → List D → Prop
  | [], r => r = []
  | t :: l, r => ∃ a b, r = a ++ b ∧ t.is a ∧ isL l b
end

mutual
def Ty.fits (P : Program) : Ty → TypeId → Bool
  | .bool, t => match P.underlying t with | some .bool => true | _ => false
  | .int k, t => match P.underlying t with | some (.int k') => decide (k' = k) | _ => false
  | .str, t => match P.underlying t with | some .string => true | _ => false
  | .list e, t => match P.underlying t with | some (.slice u) => e.fits P u && (P.cellsOf u == e.sz) && decide (0 < e.sz) | _ => false
  | .st l, t => match P.underlying t with | some (.struct fs) => fitsL P l fs.toList 0 && (P.cellsOf t == szL l) | _ => false
def fitsL (P : Program) : List Ty → List Field → Nat → Bool
  | [], [], _ => true
  | t :: l, f :: fs, off => (f.offset == off) && (P.cellsOf f.type == t.sz) && t.fits P f.type && fitsL P l fs (off + t.sz)
  | _, _, _ => false
end

theorem Ty.is_elem : ∀ (e : Ty) {r : List D}, e.is r → ∃ d, e.elem d ∧ d.row = r
  | .bool, r, h => by simp only [Ty.is] at h; obtain ⟨b, rfl⟩ := h; exact ⟨_, by simp only [Ty.elem]; exact ⟨b, rfl⟩, rfl⟩
  | .int k, r, h => by simp only [Ty.is] at h; obtain ⟨b, rfl, hw⟩ := h; exact ⟨_, by simp only [Ty.elem]; exact ⟨b, rfl, hw⟩, rfl⟩
  | .str, r, h => by simp only [Ty.is] at h; obtain ⟨b, rfl, hw⟩ := h; exact ⟨_, by simp only [Ty.elem]; exact ⟨b, rfl, hw⟩, rfl⟩
  | .list e, r, h => by simp only [Ty.is] at h; obtain ⟨b, rfl, hw⟩ := h; exact ⟨_, by simp only [Ty.elem]; exact ⟨b, rfl, hw⟩, rfl⟩
  | .st fs, r, h => by simp only [Ty.is] at h; exact ⟨.st r, by simp only [Ty.elem]; exact ⟨r, rfl, h⟩, rfl⟩

/-- One choice for each number below n. -/
theorem choose_list {α : Type} {n : Nat} {R : Nat → α → Prop} (h : ∀ i, i < n → ∃ a, R i a) : ∃ l : List α, l.length = n ∧ ∀ (i : Nat) a, l[i]? = some a → R i a := by
  induction n with
  | zero => exact ⟨[], rfl, fun i a hi => by simp at hi⟩
  | succ n ih =>
    obtain ⟨l, hl, hh⟩ := ih fun i hi => h i (by omega)
    obtain ⟨a, ha⟩ := h n (by omega)
    refine ⟨l ++ [a], by simp [hl], fun i b hi => ?_⟩
    rcases Nat.lt_or_ge i n with hin | hin
    · rw [List.getElem?_append_left (by omega)] at hi
      exact hh i b hi
    · have hlt := (List.getElem?_eq_some_iff.1 hi).1
      simp only [List.length_append, List.length_cons, List.length_nil] at hlt
      have : i = n := by omega
      subst this
      rw [List.getElem?_append_right (by omega)] at hi
      simp only [hl, Nat.sub_self, List.getElem?_cons_zero, Option.some.injEq] at hi
      subst hi
      exact ha

section
variable {H : Type} {enc : TypeId × Value → H} {P : Program} {w : World}

theorem cells_get {a : Addr} {n : Nat} {cs : List Value} (h : w.cells? 0 a n = some cs) : cs.length = n ∧ ∀ (j : Nat) u, cs[j]? = some u → w.cell? (a.add j) = some u := by
  unfold World.cells? at h
  rw [if_pos (Nat.zero_le _)] at h
  have hl : cs.length = n := by simpa using mapM_some_length h
  refine ⟨hl, fun j u hj => ?_⟩
  have hlt : j < n := by rw [← hl]; exact (List.getElem?_eq_some_iff.1 hj).1
  have := mapM_some_get h j j (by simp [hlt])
  rw [this]
  exact hj

mutual
theorem Ty.open : ∀ (ty : Ty) {n : Nat} {t : TypeId} {cs : List Value} {x : DataW H × List MemPlace}, ty.fits P t = true → DataW.trod enc P w 0 (fun _ => true) true n t cs = some x →
    ∃ row, ty.is row ∧ row.length = ty.sz ∧ cs.length = ty.sz ∧ ∀ (j : Nat) d u, row[j]? = some d → cs[j]? = some u → Ro w (allRo w) d u
  | .bool, n, t, cs, x, hf, h => by
    simp only [Ty.fits] at hf
    split at hf
    · rename_i ht
      obtain ⟨b, rfl, _⟩ := DataW.trod_bool ht h
      refine ⟨[.v (.bool b)], by simp only [Ty.is]; exact ⟨b, rfl⟩, by simp [Ty.sz], by simp [Ty.sz], fun j d u hd hu => ?_⟩
      cases j with
      | zero => simp only [List.getElem?_cons_zero, Option.some.injEq] at hd hu; subst hd; subst hu; exact .v _ rfl
      | succ j => simp at hd
    · cases hf
  | .int k, n, t, cs, x, hf, h => by
    simp only [Ty.fits] at hf
    split at hf
    · rename_i ht
      have hk := of_decide_eq_true hf
      subst hk
      obtain ⟨b, rfl, _, hw⟩ := DataW.trod_int ht h
      refine ⟨[.v (.int _ b)], by simp only [Ty.is]; exact ⟨b, rfl, hw⟩, by simp [Ty.sz], by simp [Ty.sz], fun j d u hd hu => ?_⟩
      cases j with
      | zero => simp only [List.getElem?_cons_zero, Option.some.injEq] at hd hu; subst hd; subst hu; exact .v _ rfl
      | succ j => simp at hd
    · cases hf
  | .str, n, t, cs, x, hf, h => by
    simp only [Ty.fits] at hf
    split at hf
    · rename_i ht
      obtain ⟨b, rfl, _, hw⟩ := DataW.trod_string ht h
      refine ⟨[.v (.string b)], by simp only [Ty.is]; exact ⟨b, rfl, hw⟩, by simp [Ty.sz], by simp [Ty.sz], fun j d u hd hu => ?_⟩
      cases j with
      | zero => simp only [List.getElem?_cons_zero, Option.some.injEq] at hd hu; subst hd; subst hu; exact .v _ rfl
      | succ j => simp at hd
    · cases hf
  | .list e, n, t, cs, x, hf, h => by
    simp only [Ty.fits] at hf
    split at hf
    · rename_i ue ht
      simp only [Bool.and_eq_true, beq_iff_eq, decide_eq_true_eq] at hf
      obtain ⟨⟨hfe, hcs⟩, hpos⟩ := hf
      rcases DataW.trod_slice ht h with ⟨rfl, _⟩ | ⟨a, len, cap, elems, rest, m, rfl, rfl, _, _, hlc, hcap, hlen, hel, _, _⟩
      · refine ⟨[.sl e.sz []], by simp only [Ty.is]; exact ⟨[], rfl, fun d hd => by cases hd⟩, by simp [Ty.sz], by simp [Ty.sz], fun j d u hd hu => ?_⟩
        cases j with
        | zero => simp only [List.getElem?_cons_zero, Option.some.injEq] at hd hu; subst hd; subst hu; exact .nil _ _ _
        | succ j => simp at hd
      · rcases Nat.eq_zero_or_pos len with h0 | h0
        · subst h0
          refine ⟨[.sl e.sz []], by simp only [Ty.is]; exact ⟨[], rfl, fun d hd => by cases hd⟩, by simp [Ty.sz], by simp [Ty.sz], fun j d u hd hu => ?_⟩
          cases j with
          | zero => simp only [List.getElem?_cons_zero, Option.some.injEq] at hd hu; subst hd; subst hu; exact .nil _ _ _
          | succ j => simp at hd
        · have hcells : ∀ i, i < len → ∃ cs', w.cells? 0 (a.add (i * e.sz)) e.sz = some cs' ∧ ∃ y, DataW.trod enc P w 0 (fun _ => true) true m ue cs' = some y := fun i hi => by
            have h1 := hel i hi
            rw [hcs, List.getElem?_eq_getElem (by omega), Option.bind_eq_some_iff] at h1
            obtain ⟨cs', h3, h4⟩ := h1
            exact ⟨cs', h3, _, h4⟩
          have hspot : a.spot = none ∧ a.block < w.heap.size := by
            obtain ⟨cs', h3, _⟩ := hcells 0 h0
            have h10 := cells_get h3
            have hlt : 0 < cs'.length := by rw [h10.1]; exact hpos
            have h11 := h10.2 0 _ (List.getElem?_eq_getElem hlt)
            have h12 := World.block_lt_of_cell? w _ h11
            rw [Nat.zero_mul] at h11 h12
            simp only [Addr.add] at h11 h12
            refine ⟨?_, by simpa using h12⟩
            cases hs : a.spot with
            | none => rfl
            | some k =>
              exfalso
              revert h11
              simp only [World.cell?, Nat.add_zero, hs, Option.isSome_some, if_true]
              split <;> simp
          obtain ⟨blk, off, spot⟩ := a
          obtain ⟨hsp, hblk⟩ := hspot
          simp only at hsp hblk
          subst hsp
          obtain ⟨ds, hdl, hds⟩ := choose_list (n := len) (R := fun i d => e.elem d ∧ d.row.length = e.sz ∧ ∀ (j : Nat) c, d.row[j]? = some c → ∃ u, w.cell? ⟨blk, off + (i * e.sz + j), none⟩ = some u ∧ Ro w (allRo w) c u) fun i hi => by
            obtain ⟨cs', h3, y, h4⟩ := hcells i hi
            obtain ⟨row, h5, h6, h7, h8⟩ := Ty.open e hfe h4
            obtain ⟨d, h9, rfl⟩ := e.is_elem h5
            have h10 := cells_get h3
            refine ⟨d, h9, h6, fun j c hj => ?_⟩
            have hjl : j < cs'.length := by rw [h7, ← h6]; exact (List.getElem?_eq_some_iff.1 hj).1
            have hj' := List.getElem?_eq_getElem hjl
            refine ⟨_, ?_, h8 j c _ hj hj'⟩
            have := h10.2 j _ hj'
            rw [Addr.add_lit, Addr.add_lit, Nat.add_assoc] at this
            exact this
          refine ⟨[.sl e.sz ds], by simp only [Ty.is]; exact ⟨ds, rfl, fun d hd => by obtain ⟨i, hi⟩ := List.getElem?_of_mem hd; exact (hds i d hi).1⟩, by simp [Ty.sz], by simp [Ty.sz], fun j d u hd hu => ?_⟩
          cases j with
          | succ j => simp at hd
          | zero =>
            simp only [List.getElem?_cons_zero, Option.some.injEq] at hd hu
            subst hd; subst hu
            have hcell : ∀ t, t < len * e.sz → ∃ u, w.cell? ⟨blk, off + t, none⟩ = some u := fun t ht => by
              have h1 : t / e.sz < len := Nat.div_lt_of_lt_mul (by rw [Nat.mul_comm]; exact ht)
              have h2 : t % e.sz < e.sz := Nat.mod_lt _ hpos
              obtain ⟨_, h3, h4⟩ := hds (t / e.sz) ds[t / e.sz] (List.getElem?_eq_getElem (by omega))
              obtain ⟨u, h5, _⟩ := h4 (t % e.sz) _ (List.getElem?_eq_getElem (by omega))
              have h6 : t / e.sz * e.sz + t % e.sz = t := by rw [Nat.mul_comm]; exact Nat.div_add_mod t e.sz
              rw [h6] at h5
              exact ⟨u, h5⟩
            refine .sl e.sz ds blk off len cap (fun t => (w.cell? ⟨blk, off + t, none⟩).getD undef) hdl ?_ (by simp [allRo, hblk]) (fun d hd => by obtain ⟨i, hi⟩ := List.getElem?_of_mem hd; exact (hds i d hi).2.1) (fun t ht => ?_) (fun i d hi j c' hj => ?_)
            · simp only [maxLen] at hcap
              simp only [most]
              omega
            · obtain ⟨u, hu⟩ := hcell t ht
              rw [hu]
              rfl
            · obtain ⟨u, h5, h6⟩ := (hds i d hi).2.2 j c' hj
              rw [h5]
              exact h6
    · cases hf
  | .st l, n, t, cs, x, hf, h => by
    simp only [Ty.fits] at hf
    split at hf
    · rename_i fs ht
      simp only [Bool.and_eq_true, beq_iff_eq] at hf
      obtain ⟨xs, m, rfl, rfl, hl, hxs, hh⟩ := DataW.trod_struct ht h
      obtain ⟨row, h1, h2, h3⟩ := openL l (n := m) (cs := cs) hf.1 fun i f hi => by
        have hi' : fs[i]? = some f := by simpa using hi
        have h4 := hh i f hi'
        have h5 : i < xs.length := by rw [hxs]; exact (Array.getElem?_eq_some_iff.1 hi').1
        rw [List.getElem?_eq_getElem h5] at h4
        exact ⟨_, h4⟩
      refine ⟨row, by simp only [Ty.is]; exact h1, by simpa [Ty.sz] using h2, by simp only [Ty.sz]; rw [hl, hf.2], fun j d u hd hu => h3 j d u hd (by simpa using hu)⟩
    · cases hf
theorem openL : ∀ (l : List Ty) {n : Nat} {fs : List Field} {off : Nat} {cs : List Value}, fitsL P l fs off = true →
    (∀ (i : Nat) f, fs[i]? = some f → ∃ y, DataW.trod enc P w 0 (fun _ => true) true n f.type ((cs.drop f.offset).take (P.cellsOf f.type)) = some y) → 
    ∃ row, isL l row ∧ row.length = szL l ∧ ∀ (j : Nat) d u, row[j]? = some d → cs[off + j]? = some u → Ro w (allRo w) d u
  | [], n, [], off, cs, hf, h => ⟨[], by simp [isL], by simp [szL], fun j d u hd => by simp at hd⟩
  | [], n, _ :: _, off, cs, hf, h => by simp [fitsL] at hf
  | _ :: _, n, [], off, cs, hf, h => by simp [fitsL] at hf
  | t :: l, n, f :: fs, off, cs, hf, h => by
    simp only [fitsL, Bool.and_eq_true, beq_iff_eq] at hf
    obtain ⟨⟨⟨h1, h2⟩, h3⟩, h4⟩ := hf
    obtain ⟨y, hy⟩ := h 0 f rfl
    obtain ⟨r1, k1, k2, k3, k4⟩ := Ty.open t h3 hy
    obtain ⟨r2, m1, m2, m3⟩ := openL l (n := n) (cs := cs) h4 fun i f hi => h (i + 1) f (by simpa using hi)
    refine ⟨r1 ++ r2, by simp only [isL]; exact ⟨r1, r2, rfl, k1, m1⟩, by simp [szL, k2, m2], fun j d u hd hu => ?_⟩
    rcases Nat.lt_or_ge j r1.length with hj | hj
    · rw [List.getElem?_append_left hj] at hd
      refine k4 j d u hd ?_
      rw [List.getElem?_take, if_pos (by rw [h2, ← k2]; exact hj), List.getElem?_drop, h1]
      exact hu
    · rw [List.getElem?_append_right hj] at hd
      refine m3 (j - r1.length) d u hd ?_
      rw [k2]
      rw [k2] at hj
      rw [show off + t.sz + (j - t.sz) = off + j by omega]
      exact hu
end
end
/-- A law's contract, as the claim's last step takes it. -/
theorem FunAt.done {P : Program} {f : FuncId} {pts : List TS} {W : World} (h : FunAt P f pts (RV (.bool true)) W) {args : Array Value} (hsz : args.size = pts.length)
    (hargs : ∀ g : Gh, g.o = allRo W → ∀ (i : Nat) t u, pts[i]? = some t → args[i]? = some u → RepS W g t u) : Calls P f args W fun e W' => e = .returned (.bool true) ∧ RowKit.Below W.heap.size W W' := by
  refine (h ⟨allRo W, fun _ _ => (0, 0), fun _ _ _ => undef⟩ args 0 rfl hsz (hargs _ rfl)).mono fun e W' ⟨v, r, g', he, hr, hG⟩ => ?_
  have h5 := hG.val
  rw [hr] at h5
  have h6 := V_inv h5
  subst h6
  exact ⟨he, hG.os, hG.tape, hG.output, hG.size, hG.block⟩

theorem Fun.done {P : Program} {f : FuncId} {pts : List TS} (h : Fun P f pts (RV (.bool true))) {W : World} {args : Array Value} (hsz : args.size = pts.length)
    (hargs : ∀ g : Gh, g.o = allRo W → ∀ (i : Nat) t u, pts[i]? = some t → args[i]? = some u → RepS W g t u) : Calls P f args W fun e W' => e = .returned (.bool true) ∧ RowKit.Below W.heap.size W W' := FunAt.done (h W) hsz hargs

/-- A list argument. -/
theorem arg_list {H : Type} {enc : TypeId × Value → H} {P : Program} {w : World} {e : Ty} {t : TypeId} {v : Value} {d : DataW H} {ps : List MemPlace} (hf : (Ty.list e).fits P t = true)
    (h : DataW.Trod enc P w 0 (fun _ => true) true t v d ps) (hv : v.cells = #[v]) : ∃ ds, (∀ d ∈ ds, e.elem d) ∧ ∀ g : Gh, g.o = allRo w → RepS w g (L e.sz ds) v := by
  obtain ⟨n, hn⟩ := h
  rw [hv] at hn
  obtain ⟨row, h1, h2, h3, h4⟩ := Ty.open _ hf hn
  simp only [Ty.is] at h1
  obtain ⟨ds, rfl, h5⟩ := h1
  refine ⟨ds, h5, fun g hg => .one _ _ (.c _ _ ?_)⟩
  show Ro w g.o _ _
  rw [hg]
  exact h4 0 _ v rfl rfl

/-- An argument of one cell. -/
theorem arg_cell {H : Type} {enc : TypeId × Value → H} {P : Program} {w : World} {e : Ty} {t : TypeId} {v : Value} {d : DataW H} {ps : List MemPlace} (hf : e.fits P t = true)
    (h : DataW.Trod enc P w 0 (fun _ => true) true t v d ps) (hv : v.cells = #[v]) (h1 : (match e with | .st _ => false | _ => true) = true) : ∃ d, e.elem d ∧ ∀ g : Gh, g.o = allRo w → RepS w g (.one (.c (.ro d))) v := by
  obtain ⟨n, hn⟩ := h
  rw [hv] at hn
  obtain ⟨row, h2, h3, h4, h5⟩ := Ty.open _ hf hn
  obtain ⟨d, h6, h7⟩ := e.is_elem h2
  have hd : d.row = [d] := by
    cases e with
    | st fs => cases h1
    | _ => simp only [Ty.elem] at h6; first | (obtain ⟨_, rfl, _⟩ := h6; rfl) | (obtain ⟨_, rfl⟩ := h6; rfl)
  refine ⟨d, h6, fun g hg => .one _ _ (.c _ _ ?_)⟩
  show Ro w g.o _ _
  rw [hg]
  exact h5 0 d v (by rw [← h7, hd]; rfl) rfl

/-- A struct argument. -/
theorem arg_struct {H : Type} {enc : TypeId × Value → H} {P : Program} {w : World} {fs : List Ty} {t : TypeId} {v : Value} {us : Array Value} {d : DataW H} {ps : List MemPlace} (hf : (Ty.st fs).fits P t = true)
    (h : DataW.Trod enc P w 0 (fun _ => true) true t v d ps) (hv : v = .agg us) : ∃ row, isL fs row ∧ ∀ g : Gh, g.o = allRo w → RepS w g (A row) v := by
  subst hv
  obtain ⟨n, hn⟩ := h
  obtain ⟨row, h2, h3, h4, h5⟩ := Ty.open _ hf hn
  rw [Ty.is] at h2
  have hsz : us.size = row.length := by
    have : (Value.agg us).cells.toList.length = us.size := by simp [Value.cells]
    omega
  refine ⟨row, h2, fun g hg => .one _ _ (.agg _ us (by simpa using hsz) fun j c u hj hu => ?_)⟩
  rw [List.getElem?_map, Option.map_eq_some_iff] at hj
  obtain ⟨d, hd, rfl⟩ := hj
  show Ro w g.o d u
  rw [hg]
  exact h5 j d u hd (by simpa [Value.cells] using hu)

/-- Elements of a known form. -/
theorem map_of {α : Type} {f : α → D} {p : D → Prop} (h : ∀ d, p d → ∃ x, d = f x) : ∀ {ds : List D}, (∀ d ∈ ds, p d) → ∃ xs : List α, ds = xs.map f
  | [], _ => ⟨[], rfl⟩
  | d :: ds, hd => by
    obtain ⟨x, rfl⟩ := h d (hd d List.mem_cons_self)
    obtain ⟨xs, rfl⟩ := map_of h (ds := ds) fun d' h' => hd d' (List.mem_cons_of_mem _ h')
    exact ⟨x :: xs, rfl⟩
end Go.Proofs.YtdlpmcjpbcbbjaaDoor.T
