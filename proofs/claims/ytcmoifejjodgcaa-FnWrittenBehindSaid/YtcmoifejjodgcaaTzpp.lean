
import Derived.Test.YtcmoifejjodgcaaTzop
namespace Go.Proofs.Ytcmoifejjodgcaa.T
open Go
set_option linter.unusedVariables false
set_option linter.unusedSimpArgs false
def offList (k : Nat) (pl : Pl) : Bool := pl.k == k && !(pl.p.isEmpty && pl.q == 0)
def onK (k : Nat) (pl : Pl) : Bool := pl.k == k
def St.rewrote (st : St) (k : Nat) (r : Rt) : St := ⟨st.tmps.map (TS.kill (offList k) (onK k)), (st.renew [k] k r).roots⟩
def dstOf (ds : List D) : TS → Option (Nat × Nat × Nat)
 | .one (.c (.ref ⟨k, [], 0⟩)) => some (k, 0, ds.length)
 | .one (.cut ⟨k, [], 0⟩ _ lo hi) => some (k, lo, hi - lo)
 | _ => none
theorem take_flat {sz : Nat} : ∀ {ns : List D} {n : Nat}, (∀ d ∈ ns, d.row.length = sz) → ((ns.take n).flatMap plainRow) = (ns.flatMap plainRow).take (n * sz)
 | [], n, h => by simp
 | d :: ns, 0, h => by simp
 | d :: ns, n + 1, h => by
  have h0 : (plainRow d).length = sz := by simp [plainRow, h d List.mem_cons_self]
  have ih := take_flat (ns := ns) (n := n) (fun d hd => h d (List.mem_cons_of_mem _ hd))
  rw [List.take_succ_cons, List.flatMap_cons, List.flatMap_cons, ih, List.take_append, h0, List.take_of_length_le (l := plainRow d) (by rw [h0, Nat.succ_mul]; omega), show (n + 1) * sz - sz = n * sz by rw [Nat.succ_mul]; omega]
section
variable {P : Program} {w0 : World} {g0 : Gh} {st : St} {a : Act} {w w' : World} {g g' : Gh}
theorem Rel.rewrite (hR : Rel w0 g0 st a w g) {k sz lo n b off m c : Nat} (hkp : k < 1000000) {ds ns : List D} (h1 : st.root k = some ⟨false, [.own (.sl sz ds)]⟩) (hcv : g.cv k [] 0 = .slice (some ⟨b, off, none⟩) m c)
  (hds : ∀ d ∈ ds, isPlain d) (hnl : ns.length = n) (hrows : ∀ d ∈ ns, d.row.length = sz) (hpl : ∀ d ∈ ns, isPlain d) (hplain : ∀ d ∈ ns, ∀ c ∈ d.row, plain (plainVal c) = true) (hlo : lo + n ≤ ds.length) :
  ∃ w' g', (storeCells ⟨b, off + lo * sz, none⟩ (ns.flatMap plainRow) 0).run P w = .ok () w' ∧ Rel w0 g0 (st.rewrote k ⟨false, [.own (.sl sz (ds.take lo ++ ns ++ ds.drop (lo + n)))]⟩) a w' g' := by
 have hO : Ow w g k [] 0 (.sl sz ds) := hR.rt.cell k _ h1 0 (.own (.sl sz ds)) rfl
 have hf := flat_plain hrows
 cases hO with
 | nil _ _ _ hc => rw [hc] at hcv; cases hcv
 | sl _ _ _ _ b' off' n' c' cs e hc hn hm hnc hcm ho hb hfit hrow had hcell hel =>
  rw [hc] at hcv
  simp only [Value.slice.injEq, Option.some.injEq, Addr.mk.injEq] at hcv
  obtain ⟨⟨rfl, rfl, _⟩, rfl, rfl⟩ := hcv
  have hfl : (ns.flatMap plainRow).length = n * sz := by rw [hf.1, hnl]
  have hroom : lo * sz + n * sz ≤ c' * sz := by
   rw [← Nat.add_mul]
   exact Nat.mul_le_mul_right _ (by omega)
  have h63 : ∀ u ∈ ns.flatMap plainRow, u.oneCell' = true := fun u hu => by
   obtain ⟨d, hd, hu⟩ := List.mem_flatMap.1 hu
   obtain ⟨x, hx, rfl⟩ := List.mem_map.1 hu
   have := hplain d hd x hx
   cases hpc : plainVal x <;> first | rfl | (rw [hpc] at this; cases this)
  have hst := run_storeCells_at P b' (off' + lo * sz) e (ns.flatMap plainRow) 0 cs w hb (by rw [hfl]; omega) h63
  simp only [Nat.add_zero] at hst
  refine ⟨_, { g with cv := fun k' p' q' => if k' = k then (match p' with | [(0, i)] => if lo ≤ i ∧ i < lo + n then (ns.flatMap plainRow).getD ((i - lo) * sz + q') undef else g.cv k p' q' | _ => g.cv k p' q') else g.cv k' p' q' }, hst, ?_⟩
  generalize hg' : ({ g with cv := fun k' p' q' => if k' = k then (match p' with | [(0, i)] => if lo ≤ i ∧ i < lo + n then (ns.flatMap plainRow).getD ((i - lo) * sz + q') undef else g.cv k p' q' | _ => g.cv k p' q') else g.cv k' p' q' } : Gh) = g'
  have hgo : g'.o = g.o := by rw [← hg']
  have hgad : g'.ad = g.ad := by rw [← hg']
  have hgcv : ∀ k', k' ≠ k → g'.cv k' = g.cv k' := fun k' hk' => by rw [← hg']; funext p' q'; simp only [if_neg hk']
  have hgnil : ∀ q', g'.cv k [] q' = g.cv k [] q' := fun q' => by rw [← hg']; simp
  have hgel : ∀ i j, g'.cv k [(0, i)] j = if lo ≤ i ∧ i < lo + n then (ns.flatMap plainRow).getD ((i - lo) * sz + j) undef else g.cv k [(0, i)] j := fun i j => by rw [← hg']; simp
  generalize hw' : w.setRow b' (cs.toList.take (off' + lo * sz) ++ ns.flatMap plainRow ++ cs.toList.drop (off' + lo * sz + (ns.flatMap plainRow).length)).toArray = w'
  have hheap : w'.heap[b']? = some (.cells (cs.toList.take (off' + lo * sz) ++ ns.flatMap plainRow ++ cs.toList.drop (off' + lo * sz + (ns.flatMap plainRow).length)).toArray e (0, 0)) := by rw [← hw']; exact setRow_heap w b' cs _ e _ hb
  have hother : ∀ b2, b2 ≠ b' → w'.heap[b2]? = w.heap[b2]? := fun b2 hb2 => by rw [← hw']; exact setRow_other w b' b2 _ hb2
  have hsize : w'.heap.size = w.heap.size := by rw [← hw']; simp [World.setRow]
  have hbr : (g.o b').root? = some k := by rw [ho]; rfl
  have hcell' : ∀ t, w'.cell? ⟨b', t, none⟩ = (cs.toList.take (off' + lo * sz) ++ ns.flatMap plainRow ++ cs.toList.drop (off' + lo * sz + (ns.flatMap plainRow).length))[t]? := fun t => by
   simp only [World.cell?]
   rw [hheap]
   simp
  have htl : (cs.toList.take (off' + lo * sz)).length = off' + lo * sz := by simp; omega
  have hold : ∀ t, t < off' + lo * sz ∨ off' + lo * sz + n * sz ≤ t → w'.cell? ⟨b', t, none⟩ = w.cell? ⟨b', t, none⟩ := fun t ht => by
   rw [hcell']
   have h2 : w.cell? ⟨b', t, none⟩ = cs[t]? := by simp [World.cell?, hb]
   rw [h2, List.append_assoc]
   rcases ht with ht | ht
   ·rw [List.getElem?_append_left (by omega), List.getElem?_take, if_pos ht]
    simp
   ·rw [List.getElem?_append_right (by omega), htl, List.getElem?_append_right (by omega), List.getElem?_drop, hfl]
    rw [show off' + lo * sz + n * sz + (t - (off' + lo * sz) - n * sz) = t by omega]
    simp
  have hnew : ∀ t, t < n * sz → w'.cell? ⟨b', off' + lo * sz + t, none⟩ = (ns.flatMap plainRow)[t]? := fun t ht => by
   rw [hcell', List.append_assoc, List.getElem?_append_right (by omega), htl, List.getElem?_append_left (by omega)]
   congr 1
   omega
  have hS : Same w g w' g' (fun k' => ([k] : List Nat).contains k' = false) := by
   refine ⟨fun b2 h2 => ⟨by rw [hgo]; exact h2, hother b2 (fun e2 => by subst e2; rw [ho] at h2; cases h2)⟩, fun k' hk' b2 h2 => ⟨by rw [hgo], hother b2 (fun e2 => by subst e2; rw [hbr] at h2; simp only [Option.some.injEq] at h2; subst h2; simp at hk')⟩, fun k' _ => by rw [hgad], fun k' hk' => hgcv k' (fun e2 => by subst e2; simp at hk')⟩
  have hK : Keeps w0 g0 w' g' := by
   have hk := hR.ks
   refine ⟨by rw [← hw']; exact hk.os, by rw [← hw']; exact hk.tape, by rw [← hw']; exact hk.output, by rw [hsize]; exact hk.size, fun b2 h2 h3 => ?_, fun b2 h2 => by rw [hgo]; exact hk.fresh b2 (by rw [← hsize]; exact h2), fun b2 h2 h3 => by rw [hgo] at h3; rw [hsize] at h2; exact hk.old b2 h2 h3, ⟨fun q => ?_, by rw [hgad]; exact hk.pin.2⟩, fun b2 => by rw [hgo]; exact hk.nobox b2⟩
   ·have h4 := hk.block b2 h2 h3
    have h5 : b2 ≠ b' := fun e2 => by
     subst e2
     rw [ho] at h4
     rw [← h4.2] at h3
     rcases h3 with h3 | h3 <;> cases h3
    rw [hother b2 h5, hgo]
    exact h4
   ·rw [hgcv pinK (by simp only [pinK]; omega)]
    exact hk.pin.1 q
  have hlen2 : (ds.take lo ++ ns ++ ds.drop (lo + n)).length = n' := by simp; omega
  have hget : ∀ i d, (ds.take lo ++ ns ++ ds.drop (lo + n))[i]? = some d → (lo ≤ i ∧ i < lo + n ∧ ns[i - lo]? = some d) ∨ ((i < lo ∨ lo + n ≤ i) ∧ ds[i]? = some d) := fun i d hd => by
   have htl2 : (ds.take lo).length = lo := by simp; omega
   by_cases h2 : i < lo
   ·rw [List.append_assoc, List.getElem?_append_left (by omega), List.getElem?_take, if_pos h2] at hd
    exact .inr ⟨.inl h2, hd⟩
   ·by_cases h3 : i < lo + n
    ·rw [List.append_assoc, List.getElem?_append_right (by omega), htl2, List.getElem?_append_left (by omega)] at hd
     exact .inl ⟨by omega, h3, hd⟩
    ·rw [List.append_assoc, List.getElem?_append_right (by omega), htl2, List.getElem?_append_right (by omega), List.getElem?_drop, hnl, show lo + n + (i - lo - n) = i by omega] at hd
     exact .inr ⟨.inr (by omega), hd⟩
  have hinto : ∀ {i j : Nat}, lo ≤ i → i < lo + n → j < sz → (i - lo) * sz + j < n * sz := fun h2 h3 h4 => in_rows (by omega) h4
  have hOw : Ow w' g' k [] 0 (.sl sz (ds.take lo ++ ns ++ ds.drop (lo + n))) := by
   refine .sl [] 0 sz _ b' off' n' c' _ e (by rw [hgnil]; exact hc) hlen2 hm hnc hcm (by rw [hgo]; exact ho) hheap ?_ (fun d hd => ?_) (fun i hi => by rw [hgad]; exact had i hi) (fun i j hi hj => ?_) (fun i d hd j c2 hj => ?_)
   ·simp only [List.size_toArray, List.length_append, List.length_take, List.length_drop, Array.length_toList]
    omega
   ·simp only [List.mem_append] at hd
    rcases hd with (hd | hd) | hd
    ·exact hrow d (List.mem_of_mem_take hd)
    ·exact hrows d hd
    ·exact hrow d (List.mem_of_mem_drop hd)
   ·simp only [List.nil_append]
    rw [hgel]
    by_cases h2 : lo ≤ i ∧ i < lo + n
    ·rw [if_pos h2]
     have h3 := hinto h2.1 h2.2 hj
     have h4 : off' + i * sz + j = off' + lo * sz + ((i - lo) * sz + j) := by
      have : i * sz = lo * sz + (i - lo) * sz := by rw [← Nat.add_mul]; congr 1; omega
      omega
     rw [h4, hnew _ h3, List.getD, List.getElem?_eq_getElem (by rw [hfl]; exact h3)]
     simp
    ·rw [if_neg h2]
     have h3 := hcell i j hi hj
     simp only [List.nil_append] at h3
     rw [hold _ ?_, h3]
     by_cases h4 : i < lo
     ·left
      have : (i + 1) * sz ≤ lo * sz := Nat.mul_le_mul_right _ h4
      rw [Nat.add_mul] at this
      omega
     ·right
      have : (lo + n) * sz ≤ i * sz := Nat.mul_le_mul_right _ (by omega)
      rw [Nat.add_mul] at this
      omega
   ·simp only [List.nil_append]
    rcases hget i d hd with ⟨h2, h3, h4⟩ | ⟨h2, h4⟩
    ·have hjl : j < sz := by rw [← hrows d (List.mem_of_getElem? h4)]; exact (List.getElem?_eq_some_iff.1 hj).1
     obtain ⟨x, rfl⟩ := hpl d (List.mem_of_getElem? h4) c2 (List.mem_of_getElem? hj)
     have h5 := hplain d (List.mem_of_getElem? h4) _ (List.mem_of_getElem? hj)
     refine .v _ _ x h5 ?_
     rw [hgel, if_pos ⟨h2, h3⟩, List.getD, hf.2 _ d h4 j _ hj]
     rfl
    ·have h5 := hel i d h4 j c2 hj
     obtain ⟨x, rfl⟩ := hds d (List.mem_of_getElem? h4) c2 (List.mem_of_getElem? hj)
     simp only [List.nil_append] at h5
     cases h5 with
     | v _ _ _ hp hx =>
      refine .v _ _ x hp ?_
      rw [hgel, if_neg (by omega)]
      exact hx
  have hR1 := hR.renew (k := k) (r := ⟨false, [.own (.sl sz (ds.take lo ++ ns ++ ds.drop (lo + n)))]⟩) (kl := [k]) (by simp) hS hK (fun q c2 hq => by
   cases q with
   | zero =>
    simp only [List.getElem?_cons_zero, Option.some.injEq] at hq
    subst hq
    exact hOw
   | succ q => simp at hq) rfl
  refine hR.change (st' := st.rewrote k _) (pr := offList k) (pp := onK k) ⟨hS.ro, fun pl hp => ?_, fun pl hp => by rw [hgad]⟩ rfl hR1.rt hK
  by_cases h2 : pl.k = k
  ·simp only [offList, h2, BEq.rfl, Bool.true_and, Bool.not_eq_false', Bool.and_eq_true, List.isEmpty_iff, beq_iff_eq] at hp
   rw [h2, hp.1]
   exact hgnil _
  ·rw [hgcv _ h2]
variable {o : Oper} {Q : St → Prop} {x y : Operand} {t t2 e : TypeId}
theorem SrcOk.firstN {v : Value} {sz m n : Nat} {news : List Value} (h : SrcOk w v sz m news) (hn : n ≤ m) (h0 : 0 < n) : (Builtin.firstCells sz n v).run P w = .ok (news.take (n * sz)).toArray w := by
 rcases h.2 with ⟨ad, c, rfl, rfl⟩ | ⟨b, off, c, rfl, hc⟩
 ·omega
 ·have hle : n * sz ≤ m * sz := Nat.mul_le_mul_right _ hn
  exact run_firstCells_some (P := P) w sz n ⟨b, off, none⟩ m c _ (by rw [List.length_take, h.1]; omega) (fun j u hu => by
   rw [List.getElem?_take] at hu
   split at hu
   ·rw [Addr.add_lit]; exact hc j u hu
   ·cases hu)
theorem OpT.copy (ho : o.op = .call { callee := .builtin .copy, args := #[x, y], argTypes := #[t, t2] }) {td tv : TS} {k lo len sz : Nat} {ds ns : List D} (hx : T.opd 0 st x = some td) (hy : T.opd 0 st y = some tv)
  (h1 : st.root k = some ⟨false, [.own (.sl sz ds)]⟩) (hdst : dstOf ds td = some (k, lo, len)) (hsz : ∀ pl z i j, td = .one (.cut pl z i j) → z = sz) (h2 : listOf st tv = some (sz, ns)) (hds : ∀ d ∈ ds, isPlain d) (hpl : ∀ d ∈ ns, isPlain d)
  (ht : P.underlying t = some (.slice e)) (hs : sizeT P e = some sz) {n : Nat} (hn : n = Nat.min ns.length len) (h0 : 0 < n) (hkp : k < 1000000)
  (hq : Q ((st.rewrote k ⟨false, [.own (.sl sz (ds.take lo ++ ns.take n ++ ds.drop (lo + n)))]⟩).put o.dst (I n))) : OpT P w0 g0 o st Q := fun a w g hR K Q' hK => by
 have hnn : n ≤ ns.length := by rw [hn]; exact Nat.min_le_left _ _
 have hnl : n ≤ len := by rw [hn]; exact Nat.min_le_right _ _
 have hsrc := hR.listCells h2 hpl (hR.opd hy)
 have hO : Ow w g k [] 0 (.sl sz ds) := hR.rt.cell k _ h1 0 (.own (.sl sz ds)) rfl
 have hxv : ∃ b off m c cap, g.cv k [] 0 = .slice (some ⟨b, off, none⟩) m c ∧ a.eval x = .slice (some ⟨b, off + lo * sz, none⟩) len cap ∧ lo + len ≤ ds.length := by
  have hv := hR.opd hx
  generalize a.eval x = v at hv
  unfold dstOf at hdst
  split at hdst
  ·simp only [Option.some.injEq, Prod.mk.injEq] at hdst
   obtain ⟨rfl, rfl, rfl⟩ := hdst
   cases hv with
   | one _ _ h =>
    cases h with
    | c _ _ h =>
     have h3 := h.1
     simp only at h3
     rcases hO.dst with ⟨_, h5, _⟩ | ⟨b, off, c, cs, e0, h5, _⟩
     ·omega
     ·exact ⟨b, off, _, c, c, h5, by rw [h3, h5, Nat.zero_mul, Nat.add_zero], by omega⟩
  ·rename_i z i j
   simp only [Option.some.injEq, Prod.mk.injEq] at hdst
   obtain ⟨rfl, rfl, rfl⟩ := hdst
   have h3 := hsz _ _ _ _ rfl
   subst h3
   cases hv with
   | one _ _ h =>
    cases h with
    | cut _ _ _ _ b off n c hcv h5 h6 h7 =>
     refine ⟨b, off, n, c, c - i, hcv, rfl, ?_⟩
     cases hO with
     | nil _ _ _ hc' => rw [hc'] at hcv; cases hcv
     | sl _ _ _ _ b' off' n' c' cs ty hcv' hn hm hnc hcm ho' hb hfit hrow had hcell hel =>
      rw [hcv'] at hcv
      simp only [Value.slice.injEq] at hcv
      omega
  ·cases hdst
 obtain ⟨b, off, m, c, cap, hcv, hxe, hlo⟩ := hxv
 obtain ⟨w', g', hrun, hR'⟩ := hR.rewrite (P := P) (lo := lo) (n := n) (ns := ns.take n) hkp h1 hcv hds (by simp; omega) (fun d hd => hsrc.2.1 d (List.mem_of_mem_take hd)) (fun d hd => hpl d (List.mem_of_mem_take hd)) (fun d hd => hsrc.2.2 d (List.mem_of_mem_take hd)) (by omega)
 rw [take_flat hsrc.2.1] at hrun
 have hfirst := hsrc.1.firstN (P := P) hnn h0
 have hlenof := hsrc.1.len (P := P) w
 have hrun' : (execOp a.eval o).run P w = .ok (.value (.int .i64 n)) w' := by
  simp [execOp, ho, resolve, invoke, builtin, hxe, Builtin.copy_, run_underlying ht, hlenof, run_sizeOf' hs, ← hn, hfirst, hrun, goInt]
 unfold Oper.wp
 rw [hrun']
 exact hK _ _ _ g' hq (hR'.put (V_mk rfl) o.dst)
end
end Go.Proofs.Ytcmoifejjodgcaa.T

