/- The lifted walk, part k: lists that the call makes: built, made, appended to. No condition. -/
import Derived.Test.YtdlpmcjpbcbbjaaDoorTj
namespace Go.Proofs.YtdlpmcjpbcbbjaaDoor.T
open Go
set_option linter.unusedVariables false
set_option linter.unusedSimpArgs false

/-- A new root in the place of some: whatever referred to these is forgotten. -/
def St.renew (st : St) (kl : List Nat) (k : Nat) (r : Rt) : St :=
  { tmps := (st.kill (fun pl => kl.contains pl.k) (fun pl => kl.contains pl.k)).tmps
    roots := (k, r) :: (st.kill (fun pl => kl.contains pl.k) (fun pl => kl.contains pl.k)).roots.filter fun x => !kl.contains x.1 }

theorem find_filter' (kl : List Nat) (k' : Nat) (h : kl.contains k' = false) : ∀ l : List (Nat × Rt), ((l.filter fun x => !kl.contains x.1).find? fun x => x.1 == k') = l.find? fun x => x.1 == k'
  | [] => rfl
  | x :: l => by
    simp only [List.filter_cons, List.find?_cons]
    by_cases e : x.1 = k'
    · have h1 : (!kl.contains x.1) = true := by rw [e, h]; rfl
      have h2 : (x.1 == k') = true := by simp [e]
      simp only [h1, if_true, List.find?_cons, h2]
    · have h2 : (x.1 == k') = false := by simp [e]
      rw [h2]
      split
      · simp only [List.find?_cons, h2]
        exact find_filter' kl k' h l
      · exact find_filter' kl k' h l

theorem find_filter_none (kl : List Nat) (k' : Nat) (h : kl.contains k' = true) : ∀ l : List (Nat × Rt), ((l.filter fun x => !kl.contains x.1).find? fun x => x.1 == k') = none
  | [] => rfl
  | x :: l => by
    simp only [List.filter_cons]
    split
    · rename_i hx
      have h2 : (x.1 == k') = false := by
        cases hb : (x.1 == k') with
        | false => rfl
        | true =>
          have : x.1 = k' := by simpa using hb
          rw [this, h] at hx
          cases hx
      simp only [List.find?_cons, h2]
      exact find_filter_none kl k' h l
    · exact find_filter_none kl k' h l

theorem St.root_renew (st : St) (kl : List Nat) (k : Nat) (r : Rt) (k' : Nat) :
    (st.renew kl k r).root k' = if k' = k then some r else if kl.contains k' then none else (st.root k').map (Rt.kill fun pl => kl.contains pl.k) := by
  by_cases h : k' = k
  · subst h
    simp [St.renew, St.root]
  · have h2 : (k == k') = false := by simp; exact fun e => h e.symm
    rw [if_neg h]
    simp only [St.renew, St.root, List.find?_cons, h2]
    split
    · rename_i hc
      rw [find_filter_none kl k' hc]
      rfl
    · rename_i hc
      have hc' : kl.contains k' = false := by simpa using hc
      rw [find_filter' kl k' hc']
      have := St.root_kill (fun pl => kl.contains pl.k) (fun pl => kl.contains pl.k) st k'
      simp only [St.root] at this
      exact this

section
variable {P : Program} {w0 : World} {g0 : Gh} {st : St} {a : Act} {w w' : World} {g g' : Gh}

theorem RepC.kill' {kl : List Nat} {k' q : Nat} {c : C} (h : Same w g w' g' (fun k => kl.contains k = false)) (hk : kl.contains k' = false) (hr : RepC w g k' q c) : RepC w' g' k' q (c.kill fun pl => kl.contains pl.k) := by
  cases c with
  | ro d => exact hr.mono h hk trivial
  | own d => exact hr.mono h hk trivial
  | ref pl =>
    simp only [C.kill]
    by_cases e : kl.contains pl.k = true
    · rw [if_pos e]
      trivial
    · rw [if_neg e]
      exact hr.mono h hk (show kl.contains pl.k = false by simpa using e)
  | dead => trivial

theorem Rel.renew {kl : List Nat} {k : Nat} {r : Rt} (h : Rel w0 g0 st a w g) (hkl : kl.contains k = true) (hs : Same w g w' g' (fun k => kl.contains k = false)) (hk : Keeps w0 g0 w' g')
    (hc : ∀ (q : Nat) c, r.row[q]? = some c → RepC w' g' k q c) (hm : r.mem = false) : Rel w0 g0 (st.renew kl k r) a w' g' := by
  refine h.change (pr := fun pl => kl.contains pl.k) (pp := fun pl => kl.contains pl.k) ⟨hs.ro, fun pl hp => ?_, fun pl hp => ?_⟩ rfl ⟨fun k' r' hk' q c hq => ?_, fun k' r' hk' hm' => ?_⟩ hk
  · rw [hs.cv pl.k hp]
  · rw [hs.ad pl.k hp]
  · rw [St.root_renew] at hk'
    split at hk'
    · rename_i e
      simp only [Option.some.injEq] at hk'
      subst hk'; subst e
      exact hc q c hq
    · split at hk'
      · cases hk'
      · rename_i e1 e
        rw [Option.map_eq_some_iff] at hk'
        obtain ⟨r1, h1, rfl⟩ := hk'
        simp only [Rt.kill, List.getElem?_map, Option.map_eq_some_iff] at hq
        obtain ⟨c1, h2, rfl⟩ := hq
        exact (h.rt.cell k' r1 h1 q c1 h2).kill' hs (by simpa using e)
  · rw [St.root_renew] at hk'
    split at hk'
    · simp only [Option.some.injEq] at hk'
      subst hk'
      rw [hm] at hm'
      cases hm'
    · split at hk'
      · cases hk'
      · rename_i e1 e
        have e' : kl.contains k' = false := by simpa using e
        rw [Option.map_eq_some_iff] at hk'
        obtain ⟨r1, h1, rfl⟩ := hk'
        obtain ⟨a1, ⟨cs, ty, a2⟩, a3⟩ := h.rt.mem k' r1 h1 hm'
        have hs' := hs.own k' e' (g.ad k' []).1 (by rw [a1]; rfl)
        rw [hs.ad k' e', hs.cv k' e']
        refine ⟨by rw [hs'.1]; exact a1, ⟨cs, ty, by rw [hs'.2]; exact a2⟩, fun q hq => ?_⟩
        rw [cellAddr, cell_eq hs'.2]
        exact a3 q (by simpa [Rt.kill] using hq)

theorem ref_mk {pl : Pl} {u : Value} (h : u = g.cv pl.k pl.p pl.q) (h1 : u.oneCell' = true) : RepS w g (.one (.c (.ref pl))) u :=
  .one _ _ (.c (.ref pl) u (show RepV w g (.ref pl) u from ⟨h, h1⟩))

/-- What a new list's cell holds. -/
def MadeC : D → Value → Prop
  | .v x, u => u = x ∧ plain x = true
  | .sl _ [], u => u = .slice none 0 0
  | .hole, _ => True
  | _, _ => False

theorem Rel.slice (hR : Rel w0 g0 st a w g) {k : Nat} (hkp : k < 1000000) {cells : Array Value} {e : TypeId} {sz n c : Nat} {ds : List D} (hn : ds.length = n) (hm : n ≤ most) (hnc : n ≤ c) (hcm : c ≤ 9223372036854775807)
    (hfit : c * sz ≤ cells.size) (hrow : ∀ d ∈ ds, d.row.length = sz) (hc : ∀ (i : Nat) d, ds[i]? = some d → ∀ (j : Nat) c' u, d.row[j]? = some c' → cells[i * sz + j]? = some u → MadeC c' u) :
    ∃ g', Rel w0 g0 (st.renew [k] k ⟨false, [.own (.sl sz ds)]⟩) a (w.alloc (.cells cells e)) g' ∧ g'.cv k [] 0 = .slice (some ⟨w.heap.size, 0, none⟩) n c ∧ Same w g (w.alloc (.cells cells e)) g' (· ≠ k) := by
  let g' : Gh :=
    { o := fun b => if b = w.heap.size then .lies k [] 0 else g.o b
      ad := fun k' => if k' = k then fun p => match p with | [(_, i)] => (w.heap.size, i * sz) | _ => (0, 0) else g.ad k'
      cv := fun k' => if k' = k then fun p q => match p with | [(_, i)] => cells.getD (i * sz + q) undef | _ => .slice (some ⟨w.heap.size, 0, none⟩) n c else g.cv k' }
  have ho : ∀ b, b ≠ w.heap.size → g'.o b = g.o b := fun b hb => if_neg hb
  have hcont : ∀ k', ([k] : List Nat).contains k' = false → k' ≠ k := fun k' h e => by subst e; simp at h
  have hS0 : Same w g (w.alloc (.cells cells e)) g' (· ≠ k) := Same.of_alloc hR ho (fun k' hk' => if_neg hk') (fun k' hk' => if_neg hk')
  have hS : Same w g (w.alloc (.cells cells e)) g' (fun k' => ([k] : List Nat).contains k' = false) := ⟨hS0.ro, fun k' hk' => hS0.own k' (hcont k' hk'), fun k' hk' => hS0.ad k' (hcont k' hk'), fun k' hk' => hS0.cv k' (hcont k' hk')⟩
  have hhd : g'.cv k [] 0 = .slice (some ⟨w.heap.size, 0, none⟩) n c := by simp [g']
  have hcv : ∀ i j, g'.cv k [(0, i)] j = cells.getD (i * sz + j) undef := fun i j => by simp [g']
  have hin : ∀ i j, i < n → j < sz → i * sz + j < cells.size := fun i j hi hj => by
    have h1 : (i + 1) * sz ≤ c * sz := Nat.mul_le_mul_right _ (by omega)
    rw [Nat.add_mul] at h1
    omega
  have hK1 : pinK ≠ k := by simp only [pinK]; omega
  have hB1 : pinB ≠ k := by simp only [pinB]; omega
  refine ⟨g', hR.renew (by simp) hS (hR.ks.of_alloc ho (by simp [g']) (fun q => by simp only [g', if_neg hK1]) (by simp only [g', if_neg hB1]) (fun e => by simp [g'] at e)) (fun q c' hq => ?_) rfl, hhd, hS0⟩
  cases q with
  | succ q => simp at hq
  | zero =>
    simp only [List.getElem?_cons_zero, Option.some.injEq] at hq
    subst hq
    refine Ow.sl [] 0 sz ds w.heap.size 0 n c cells e hhd hn hm hnc hcm (by simp [g']) (heap_alloc_new w _) (by omega) hrow (fun i hi => by simp [g']) (fun i j hi hj => ?_) (fun i d hd j c1 hj => ?_)
    · rw [List.nil_append, hcv, Nat.zero_add]
      have h1 : (w.alloc (.cells cells e)).cell? ⟨w.heap.size, i * sz + j, none⟩ = cells[i * sz + j]? := World.cell?_alloc_new w cells e _
      rw [h1, Array.getD_eq_getD_getElem?, Array.getElem?_eq_getElem (hin i j hi hj)]
      rfl
    · have hi : i < n := by rw [← hn]; exact (List.getElem?_eq_some_iff.1 hd).1
      have hj' : j < sz := by rw [← hrow d (List.mem_of_getElem? hd)]; exact (List.getElem?_eq_some_iff.1 hj).1
      have hlt := hin i j hi hj'
      have hu : cells[i * sz + j]? = some cells[i * sz + j] := Array.getElem?_eq_getElem hlt
      have h1 := hc i d hd j c1 _ hj hu
      have h2 : g'.cv k [(0, i)] j = cells[i * sz + j] := by
        rw [hcv, Array.getD_eq_getD_getElem?, hu]
        rfl
      rw [List.nil_append]
      cases c1 with
      | v x => exact .v _ _ x h1.2 (by rw [h2]; exact h1.1)
      | sl s l => cases l with
        | nil => exact .nil _ _ s (by rw [h2]; exact h1)
        | cons => exact h1.elim
      | hole => exact .hole _ _
      | st _ => exact h1.elim

theorem Rel.drew (hR : Rel w0 g0 st a w g) : Rel w0 g0 st a w.drew g := by
  have h := hR.change (st' := st) (pr := fun _ => false) (pp := fun _ => false) (w' := w.drew) (g' := g) ⟨fun b hb => ⟨hb, rfl⟩, fun _ _ => rfl, fun _ _ => rfl⟩ ?_ ?_ ?_
  · exact h
  · have h1 : ∀ c : C, c.kill (fun _ => false) = c := fun c => by cases c <;> rfl
    have h2 : ∀ t : TV, t.kill (fun _ => false) (fun _ => false) = t := fun t => by
      cases t with
      | c x => simp [TV.kill, h1]
      | agg cs => simp only [TV.kill, TV.agg.injEq]; rw [List.map_congr_left (fun c _ => h1 c)]; simp
      | tab pls => simp [TV.kill]
      | ptab pls => simp [TV.kill]
      | _ => rfl
    have h3 : ∀ t : TS, t.kill (fun _ => false) (fun _ => false) = t := fun t => by
      cases t with
      | one t => simp [TS.kill, h2]
      | tup ts => simp only [TS.kill, TS.tup.injEq]; rw [List.map_congr_left (fun c _ => h2 c)]; simp
      | fn f ts => simp only [TS.kill, TS.fn.injEq, true_and]; rw [List.map_congr_left (fun c _ => h2 c)]; simp
    rw [List.map_congr_left (fun t _ => h3 t)]
    simp
  · exact RepR.mono (w := w) (w' := w.drew) (g := g) (g' := g) (keep := fun _ => True) ⟨fun b hb => ⟨hb, rfl⟩, fun _ _ b _ => ⟨rfl, rfl⟩, fun _ _ => rfl, fun _ _ => rfl⟩ hR.rt (fun k r _ => ⟨trivial, fun c _ => by cases c <;> trivial⟩)
  · exact ⟨hR.ks.os, hR.ks.tape, hR.ks.output, hR.ks.size, hR.ks.block, hR.ks.fresh, hR.ks.old, hR.ks.pin, hR.ks.nobox⟩

variable {o : Oper} {Q : St → Prop} {x y : Operand} {t e : TypeId}

/-- make([]T, n): n elements of zeros. -/
theorem OpT.make (ho : o.op = .makeSlice t x y) {k : Nat} (hd : o.dst = some k) {n : Int} (hx : T.opd 0 st x = some (I n)) (hy : T.opd 0 st y = some (I n)) (hu : P.underlying t = some (.slice e))
    {i : TypeInfo} {z : Value} {sz bytes : Nat} (hi : P.info? e = some i) (hz : i.zero = some z) (hsz : i.size = sz) (hby : i.bytes = bytes) {row : List D} (hrow : zeroD P 6 e = some row)
    (hv : z.cells.toList = row.map zeroV) (hok : row.all zeroOk = true) (hrl : row.length = sz) {d : D} (hdr : d.row = row) (h0 : 0 ≤ n) (h1 : n * bytes ≤ 140737488355328) (h2 : n ≤ 140737488355328)
    (hq : Q ((st.renew [k] k ⟨false, [.own (.sl sz (List.replicate n.toNat d))]⟩).put (some k) (.one (.c (.ref ⟨k, [], 0⟩))))) (hkp : k < 1000000 := by decide) : OpT P w0 g0 o st Q := fun a w g hR K Q' hK => by
  subst hsz
  subst hby
  obtain ⟨m, rfl⟩ := Int.eq_ofNat_of_zero_le h0
  rw [Int.toNat_natCast] at hq
  have hzs : z.cells.size = i.size := by
    have := congrArg List.length hv
    simp only [List.length_map, hrl] at this
    simpa using this
  have hm2 : m ≤ most := by simp only [most]; omega
  have hw1 : IntKind.i64.wrap (m : Int) = m := wrap_i64 (by omega) (by omega)
  obtain ⟨g', hR', hhd, _⟩ := hR.slice (k := k) hkp (cells := (Array.range (m * i.size)).map fun j => z.cells[j % z.cells.size]!) (e := e) (sz := i.size) (n := m) (c := m) (ds := List.replicate m d)
    (by simp) hm2 (Nat.le_refl _) (by simp only [most] at hm2; omega) (by simp) (fun d' hd' => by rw [List.eq_of_mem_replicate hd', hdr]; exact hrl) (fun i' d' hd' j c' u hj hu => by
      rw [List.getElem?_replicate] at hd'
      split at hd'
      · simp only [Option.some.injEq] at hd'
        subst hd'
        rw [hdr] at hj
        have hjl : j < i.size := by rw [← hrl]; exact (List.getElem?_eq_some_iff.1 hj).1
        rw [Array.getElem?_map, Option.map_eq_some_iff] at hu
        obtain ⟨t', ht', rfl⟩ := hu
        have ht2 : t' = i' * i.size + j := by
          rw [Array.getElem?_range] at ht'
          split at ht'
          · simpa using ht'.symm
          · cases ht'
        subst ht2
        have hmod : (i' * i.size + j) % z.cells.size = j := by
          rw [hzs, Nat.add_comm, Nat.add_mul_mod_self_right]
          exact Nat.mod_eq_of_lt hjl
        rw [hmod]
        have hzj : z.cells[j]! = zeroV c' := by
          have : z.cells.toList[j]? = some (zeroV c') := by rw [hv, List.getElem?_map, hj]; rfl
          rw [Array.getElem?_toList] at this
          simp [getElem!_def, this]
        rw [hzj]
        have hokc := List.all_eq_true.1 hok c' (List.mem_of_getElem? hj)
        cases c' with
        | v y => exact ⟨rfl, hokc⟩
        | sl s l => cases l with
          | nil => exact rfl
          | cons => cases hokc
        | _ => cases hokc
      · cases hd')
  unfold Oper.wp
  have hzr : (zeroValue e).run P w = .ok z w := by simp [zeroValue, typeInfo, hi, hz]
  have hrun : (execOp a.eval o).run P w = .ok (.value (.slice (some ⟨w.heap.size, 0, none⟩) m m)) (w.alloc (.cells ((Array.range (m * i.size)).map fun j => z.cells[j % z.cells.size]!) e)) := by
    have hb1 : ¬ ((i.bytes : Int) * m > 281474976710656) := by rw [Int.mul_comm]; omega
    have hneg : ¬ ((m : Int) < 0) := by omega
    by_cases hz0 : m * i.size = 0
    · have hrange : ((Array.range (m * i.size)).map fun j => z.cells[j % z.cells.size]!) = (Array.range (m * i.size)).map fun j => (#[] : Array Value)[j % (#[] : Array Value).size]! := by
        rw [hz0]
        simp
      rw [hrange]
      simp [execOp, ho, hR.val hx, hR.val hy, Instr.makeSlice, run_underlying hu, asInt, asIntOf, typeInfo, hi, hw1, hb1, hneg, sizeOf, hz0, newRow]
    · simp [execOp, ho, hR.val hx, hR.val hy, Instr.makeSlice, run_underlying hu, asInt, asIntOf, typeInfo, hi, hw1, hb1, hneg, sizeOf, hz0, newRow, hzr]
  rw [hrun]
  refine hK _ _ _ g' hq ?_
  rw [hd]
  exact hR'.put (ref_mk hhd.symm rfl) (some k)

end
end Go.Proofs.YtdlpmcjpbcbbjaaDoor.T
