
import Derived.Test.YteelmdpahpggkaaGreatNnp
import Derived.Test.YteelmdpahpggkaaGreatRop
namespace Go.Proofs.YteelmdpahpggkaaGreat.T
open Go
set_option linter.unusedVariables false
set_option linter.unusedSimpArgs false
set_option maxRecDepth 100000
set_option maxHeartbeats 8000000
theorem impl_TableNew_f (n : Nat) (hn : 1 ≤ n ∧ n ≤ 24 := by omega) : Fun Tryz.prog 132 [I n] (RL 2 ((tableNew n).map dSlot)) := by
 refine Fun.w 8 Tryz.func132 fun w g0 _ => ?_
 refine callP (impl_NoSlot_f).k ?_
 refine callP (impl_Brought_n hn.2).k ?_
 refine callL (slices_RepeatSlot_f noSlot n hn).k ?_
 exact rfl
theorem impl_GuestNew_f (p : List VIns) [Q (SmInsS p)] : Fun Tryz.prog 187 [L 2 (p.map dIns)] (RG [.a (rGuest (guestNew p))]) := by
 refine Fun.w 8 Tryz.func187 fun w g0 _ => ?_
 refine callL (impl_copyProg_f _).k ?_
 refine callL (impl_TableNew_f 4 (by omega)).k ?_
 refine callL (impl_TableNew_f 4 (by omega)).k ?_
 exact rfl
theorem spec_GuestNew_f (p : List VIns) [Q (SmInsS p)] : Fun Tryz.prog 309 [L 2 (p.map dIns)] (RG [.a (rGuest (guestNew p))]) := by
 refine Fun.w 9 Tryz.func309 fun w g0 _ => ?_
 first | refine appPq ?_ | refine appP ?_
 refine callL (spec_TableNew_f 4 (by omega)).k ?_
 refine callL (spec_TableNew_f 4 (by omega)).k ?_
 exact rfl
theorem spec_BareOk_f (b : VBare) : Fun Tryz.prog 181 [A (rBare b)] (RV (.bool (bareOk b))) := by
 refine Fun.w 38 Tryz.func181 fun w g0 hM => ?_
 have hl0 := hM.1.2.1.map
 have hl1 := hM.1.2.2.1.map
 refine loopA [1] [] [] (fun (i : Nat) => [.set 3 (I i)]) (fun (i : Nat) => []) (fun (i : Nat) => (i ≤ b.Guests.length) ∧ ((b.Guests.take i).all guestOk = true)) (fun (i : Nat) => b.Guests.length - i) (0) (⟨Nat.zero_le _, rfl⟩) ?_
 refine ⟨hda, fun i hyp N1 hN1 => ?_⟩
 have hyp : (i ≤ b.Guests.length) ∧ ((b.Guests.take i).all guestOk = true) := hyp
 have ha := all_dec hyp.2
 refine len ?_
 refine cnd (fun hb => ?_) (fun hb => ?_)
 ·first | refine ixm (by assumption) ?_ | refine bnd ?_ | refine bndi ?_ | refine ixkq (fun y14 hy14 qy14 ly14 => ?_) | refine ixiq (fun y14 hy14 qy14 ly14 => ?_)
  first | refine ixs ?_ | refine ixo (by assumption) ?_ | refine ixoq (fun z1 hz1 qz1 lz1 => ?_) | skip
  refine callP (spec_GuestOk_f _).k ?_
  refine cnd (fun hb2 => ?_) (fun hb2 => ?_)
  ·refine hN1 _ _ _ ?_
   exact resV (by first | (unfold bareOk; rw [ha.1 _ (by assumption) (by assumption)]; rfl) | (unfold bareOk; rw [ha.2 (by omega)]; simp [*]; done) | (unfold bareOk; rw [ha.2 (by omega)]; refine congrArg Value.bool ?_; rw [Bool.eq_iff_iff]; simp [*]; omega) | (unfold bareOk; rw [ha.2 (by omega)]; refine congrArg Value.bool ?_; symm; rw [Bool.eq_false_iff]; intro e; simp only [Bool.and_eq_true, decide_eq_true_eq] at e; omega))
  ·refine rng ?_
   refine hN1 _ _ _ ?_
   refine nxa (i + 1) (⟨by omega, all_next hyp.2 (by assumption) (by first | assumption | exact decide_eq_false (by omega) | exact decide_eq_true (by omega))⟩)
 ·refine hN1 _ _ _ ?_
  refine callP (spec_MemOk_f _ _).k ?_
  refine cnd (fun hg3 => ?_) (fun hg3 => ?_)
  ·refine len ?_
   refine callP (spec_l01In_f _ _ _).k ?_
   refine cnd (fun hg9 => ?_) (fun hg9 => ?_)
   ·refine len ?_
    refine cnd (fun hg15 => ?_) (fun hg15 => ?_)
    ·refine callP (spec_PendOk_f _).k ?_
     exact resV (by first | (unfold bareOk; rw [ha.1 _ (by assumption) (by assumption)]; rfl) | (unfold bareOk; rw [ha.2 (by omega)]; simp [*]; done) | (unfold bareOk; rw [ha.2 (by omega)]; refine congrArg Value.bool ?_; rw [Bool.eq_iff_iff]; simp [*]; omega) | (unfold bareOk; rw [ha.2 (by omega)]; refine congrArg Value.bool ?_; symm; rw [Bool.eq_false_iff]; intro e; simp only [Bool.and_eq_true, decide_eq_true_eq] at e; omega))
    ·exact resV (by first | (unfold bareOk; rw [ha.1 _ (by assumption) (by assumption)]; rfl) | (unfold bareOk; rw [ha.2 (by omega)]; simp [*]; done) | (unfold bareOk; rw [ha.2 (by omega)]; refine congrArg Value.bool ?_; rw [Bool.eq_iff_iff]; simp [*]; omega) | (unfold bareOk; rw [ha.2 (by omega)]; refine congrArg Value.bool ?_; symm; rw [Bool.eq_false_iff]; intro e; simp only [Bool.and_eq_true, decide_eq_true_eq] at e; omega))
   ·exact resV (by first | (unfold bareOk; rw [ha.1 _ (by assumption) (by assumption)]; rfl) | (unfold bareOk; rw [ha.2 (by omega)]; simp [*]; done) | (unfold bareOk; rw [ha.2 (by omega)]; refine congrArg Value.bool ?_; rw [Bool.eq_iff_iff]; simp [*]; omega) | (unfold bareOk; rw [ha.2 (by omega)]; refine congrArg Value.bool ?_; symm; rw [Bool.eq_false_iff]; intro e; simp only [Bool.and_eq_true, decide_eq_true_eq] at e; omega))
  ·exact resV (by first | (unfold bareOk; rw [ha.1 _ (by assumption) (by assumption)]; rfl) | (unfold bareOk; rw [ha.2 (by omega)]; simp [*]; done) | (unfold bareOk; rw [ha.2 (by omega)]; refine congrArg Value.bool ?_; rw [Bool.eq_iff_iff]; simp [*]; omega) | (unfold bareOk; rw [ha.2 (by omega)]; refine congrArg Value.bool ?_; symm; rw [Bool.eq_false_iff]; intro e; simp only [Bool.and_eq_true, decide_eq_true_eq] at e; omega))
theorem impl_BareOk_f (b : VBare) : Fun Tryz.prog 186 [A (rBare b)] (RV (.bool (bareOk b))) := by
 refine Fun.w 36 Tryz.func186 fun w g0 hM => ?_
 have hl0 := hM.1.2.1.map
 have hl1 := hM.1.2.2.1.map
 refine len ?_
 refine loopA [1, 6, 7] [] [] (fun (i : Nat) => [.set 8 (I i)]) (fun (i : Nat) => []) (fun (i : Nat) => (i ≤ b.Guests.length) ∧ ((b.Guests.take i).all guestOk = true)) (fun (i : Nat) => b.Guests.length - i) (0) (⟨Nat.zero_le _, rfl⟩) ?_
 refine ⟨hda, fun i hyp N1 hN1 => ?_⟩
 have hyp : (i ≤ b.Guests.length) ∧ ((b.Guests.take i).all guestOk = true) := hyp
 have ha := all_dec hyp.2
 refine cnd (fun hb => ?_) (fun hb => ?_)
 ·first | refine ixm (by assumption) ?_ | refine bnd ?_ | refine bndi ?_ | refine ixkq (fun y10 hy10 qy10 ly10 => ?_) | refine ixiq (fun y10 hy10 qy10 ly10 => ?_)
  first | refine ixs ?_ | refine ixo (by assumption) ?_ | refine ixoq (fun z1 hz1 qz1 lz1 => ?_) | skip
  refine callP (impl_GuestOk_f _).k ?_
  refine cnd (fun hb2 => ?_) (fun hb2 => ?_)
  ·refine hN1 _ _ _ ?_
   exact resV (by first | (unfold bareOk; rw [ha.1 _ (by assumption) (by assumption)]; rfl) | (unfold bareOk; rw [ha.2 (by omega)]; simp [*]; done) | (unfold bareOk; rw [ha.2 (by omega)]; refine congrArg Value.bool ?_; rw [Bool.eq_iff_iff]; simp [*]; omega) | (unfold bareOk; rw [ha.2 (by omega)]; refine congrArg Value.bool ?_; symm; rw [Bool.eq_false_iff]; intro e; simp only [Bool.and_eq_true, decide_eq_true_eq] at e; omega))
  ·refine rng ?_
   refine hN1 _ _ _ ?_
   refine nxa (i + 1) (⟨by omega, all_next hyp.2 (by assumption) (by first | assumption | exact decide_eq_false (by omega) | exact decide_eq_true (by omega))⟩)
 ·refine hN1 _ _ _ ?_
  refine callP (impl_MemOk_f _ _).k ?_
  refine cnd (fun hg3 => ?_) (fun hg3 => ?_)
  ·refine len ?_
   refine callP (impl_within_f _ _ _).k ?_
   refine cnd (fun hg9 => ?_) (fun hg9 => ?_)
   ·refine len ?_
    refine cnd (fun hg15 => ?_) (fun hg15 => ?_)
    ·refine callP (impl_PendOk_f _).k ?_
     exact resV (by first | (unfold bareOk; rw [ha.1 _ (by assumption) (by assumption)]; rfl) | (unfold bareOk; rw [ha.2 (by omega)]; simp [*]; done) | (unfold bareOk; rw [ha.2 (by omega)]; refine congrArg Value.bool ?_; rw [Bool.eq_iff_iff]; simp [*]; omega) | (unfold bareOk; rw [ha.2 (by omega)]; refine congrArg Value.bool ?_; symm; rw [Bool.eq_false_iff]; intro e; simp only [Bool.and_eq_true, decide_eq_true_eq] at e; omega))
    ·exact resV (by first | (unfold bareOk; rw [ha.1 _ (by assumption) (by assumption)]; rfl) | (unfold bareOk; rw [ha.2 (by omega)]; simp [*]; done) | (unfold bareOk; rw [ha.2 (by omega)]; refine congrArg Value.bool ?_; rw [Bool.eq_iff_iff]; simp [*]; omega) | (unfold bareOk; rw [ha.2 (by omega)]; refine congrArg Value.bool ?_; symm; rw [Bool.eq_false_iff]; intro e; simp only [Bool.and_eq_true, decide_eq_true_eq] at e; omega))
   ·exact resV (by first | (unfold bareOk; rw [ha.1 _ (by assumption) (by assumption)]; rfl) | (unfold bareOk; rw [ha.2 (by omega)]; simp [*]; done) | (unfold bareOk; rw [ha.2 (by omega)]; refine congrArg Value.bool ?_; rw [Bool.eq_iff_iff]; simp [*]; omega) | (unfold bareOk; rw [ha.2 (by omega)]; refine congrArg Value.bool ?_; symm; rw [Bool.eq_false_iff]; intro e; simp only [Bool.and_eq_true, decide_eq_true_eq] at e; omega))
  ·exact resV (by first | (unfold bareOk; rw [ha.1 _ (by assumption) (by assumption)]; rfl) | (unfold bareOk; rw [ha.2 (by omega)]; simp [*]; done) | (unfold bareOk; rw [ha.2 (by omega)]; refine congrArg Value.bool ?_; rw [Bool.eq_iff_iff]; simp [*]; omega) | (unfold bareOk; rw [ha.2 (by omega)]; refine congrArg Value.bool ?_; symm; rw [Bool.eq_false_iff]; intro e; simp only [Bool.and_eq_true, decide_eq_true_eq] at e; omega))
end Go.Proofs.YteelmdpahpggkaaGreat.T

namespace Go.Proofs.YteelmdpahpggkaaGreat.T
open Go
set_option linter.unusedVariables false
set_option linter.unusedSimpArgs false
def roC : C → Bool
 | .ro _ => true
 | .own _ => false
 | .ref _ => false
 | .dead => false
def roCs : List C → Bool
 | [] => true
 | c :: l => roC c && roCs l
def roV : TV → Bool
 | .c x => roC x
 | .agg cs => roCs cs
 | .cptr _ => true
 | _ => false
def roVs : List TV → Bool
 | [] => true
 | c :: l => roV c && roVs l
def roS : TS → Bool
 | .one t => roV t
 | .tup ts => roVs ts
 | .fn _ _ => false
def roSs : List TS → Bool
 | [] => true
 | c :: l => roS c && roSs l
def roTag : Tag → Tag
 | .ro => .ro
 | _ => .outer
theorem roTag_ro {t : Tag} : roTag t = .ro ↔ t = .ro := by cases t <;> simp [roTag]
theorem roTag_or (t : Tag) : roTag t = .ro ∨ roTag t = .outer := by cases t <;> simp [roTag]
theorem roCs_mem : ∀ {l : List C}, roCs l = true → ∀ c ∈ l, roC c = true
 | c :: l, h, x, hx => by
  have h : (roC c && roCs l) = true := h
  rw [Bool.and_eq_true] at h
  rcases List.mem_cons.1 hx with rfl | hx
  ·exact h.1
  ·exact roCs_mem h.2 x hx
theorem roVs_mem : ∀ {l : List TV}, roVs l = true → ∀ c ∈ l, roV c = true
 | c :: l, h, x, hx => by
  have h : (roV c && roVs l) = true := h
  rw [Bool.and_eq_true] at h
  rcases List.mem_cons.1 hx with rfl | hx
  ·exact h.1
  ·exact roVs_mem h.2 x hx
theorem roSs_mem : ∀ {l : List TS}, roSs l = true → ∀ c ∈ l, roS c = true
 | c :: l, h, x, hx => by
  have h : (roS c && roSs l) = true := h
  rw [Bool.and_eq_true] at h
  rcases List.mem_cons.1 hx with rfl | hx
  ·exact h.1
  ·exact roSs_mem h.2 x hx
section
variable {P : Program} {w0 w w' : World} {g0 g g' : Gh} {st : St} {a : Act}
theorem roC_rep {c : C} {u : Value} (hm : ∀ b, g.o b = .ro → g'.o b = .ro ∧ w'.heap[b]? = w.heap[b]?) (h : roC c = true) (hr : RepV w g c u) : RepV w' g' c u := by
 cases c with
 | ro d => exact Ro.mono hm hr
 | _ => cases h
theorem roV_rep {t : TV} {u : Value} (hm : ∀ b, g.o b = .ro → g'.o b = .ro ∧ w'.heap[b]? = w.heap[b]?) (h : roV t = true) (hr : RepT w g t u) : RepT w' g' t u := by
 cases hr with
 | c c u hv => exact .c c u (roC_rep hm h hv)
 | agg cs us hs hv => exact .agg cs us hs fun j c u h1 h2 => roC_rep hm (roCs_mem h c (List.mem_of_getElem? h1)) (hv j c u h1 h2)
 | cptr ds b off us ho hcell => exact .cptr ds b off us (hm b ho).1 fun j d hj => ⟨by rw [cell_eq (hm b ho).2]; exact (hcell j d hj).1, (hcell j d hj).2.mono hm⟩
 | _ => cases h
theorem roS_rep {t : TS} {u : Value} (hm : ∀ b, g.o b = .ro → g'.o b = .ro ∧ w'.heap[b]? = w.heap[b]?) (h : roS t = true) (hr : RepS w g t u) : RepS w' g' t u := by
 cases hr with
 | one t u h1 => exact .one t u (roV_rep hm h h1)
 | tup ts us hs hv => exact .tup ts us hs fun j t u h1 h2 => roV_rep hm (roVs_mem h t (List.mem_of_getElem? h1)) (hv j t u h1 h2)
 | fn f caps us hs hv => cases h
end
def FunA (P : Program) (f : FuncId) (pts : List TS) (t : TS) : Prop :=
 ∀ (w : World) (g : Gh) (args : Array Value), (∀ b, b < w.heap.size → g.o b = .ro ∨ g.o b = .outer) → (∀ b, w.heap.size ≤ b → g.o b = .outer) → args.size = pts.length →
  (∀ (i : Nat) t u, pts[i]? = some t → args[i]? = some u → RepS w g t u) →
  Calls P f args w fun e w' => ∃ v g', e = .returned v ∧ Later w w' ∧ (∀ b, g'.o b = .ro → (b < w.heap.size ∧ g.o b = .ro) ∨ (w.heap.size ≤ b ∧ b < w'.heap.size)) ∧ RepS w' g' t v
inductive FrzV (st : St) : TV → TV → Prop
 | c {x x' : C} (h : SnapC st x x') : FrzV st (.c x) (.c x')
 | agg {l l' : List C} (h : SnapCs st l l') : FrzV st (.agg l) (.agg l')
 | cptr (ds : List D) : FrzV st (.cptr ds) (.cptr ds)
inductive FrzVs (st : St) : List TV → List TV → Prop
 | nil : FrzVs st [] []
 | cons {t t' : TV} {l l' : List TV} (h : FrzV st t t') (hl : FrzVs st l l') : FrzVs st (t :: l) (t' :: l')
theorem FrzVs.get {st : St} {ts ts' : List TV} (h : FrzVs st ts ts') : ts'.length = ts.length ∧ ∀ (i : Nat) t', ts'[i]? = some t' → ∃ t, ts[i]? = some t ∧ FrzV st t t' := by
 induction h with
 | nil => exact ⟨rfl, fun i t' hi => by simp at hi⟩
 | cons h hs ih =>
  refine ⟨by simp [ih.1], fun i t' hi => ?_⟩
  cases i with
  | zero =>
   simp only [List.getElem?_cons_zero, Option.some.injEq] at hi
   subst hi
   exact ⟨_, rfl, h⟩
  | succ i => exact ih.2 i t' (by simpa using hi)
def EndsA (P : Program) (fn : Func) (t : TS) (e : Exit) (st : St) : Prop :=
 (e = .normal ∨ e = .ret) ∧ ∃ (rvs : List ResultVar) (tvs tvs' : List TV), fn.results = rvs.toArray ∧ rvs.length ≤ 4 ∧ rvs.map (resTV P st) = tvs.map some ∧ FrzVs st tvs tvs' ∧ t = resT tvs'
section
variable {P : Program}
theorem FunA.of {f : FuncId} {fn : Func} {c : Code} {pts : List TS} {t : TS} (hf : P.funcs[f]? = some fn) (hb : fn.body = some c) (hn : pts.length ≤ fn.ntmps)
  (h : ∀ (w : World) (g0 : Gh), TC P w g0 c ⟨pts ++ List.replicate (fn.ntmps - pts.length) (.one .dead), []⟩ (EndsA P fn t)) : FunA P f pts t := by
 intro w g args hg hg2 hsz hargs
 refine calls_of_wp hf hb (wp_mono (h w g _ w g ⟨fun i tv hi => ?_, ?_, rfl, ⟨fun k r hk => ?_, fun k r hk => ?_⟩, ⟨rfl, rfl, rfl, Nat.le_refl _, fun b hb _ => ⟨rfl, rfl⟩, fun b hb => hg2 b hb, fun b hb ho => ⟨hb, ho⟩, ⟨fun _ => rfl, rfl⟩, fun b => ?_⟩⟩) fun e a w' ⟨st, g', hE, hR⟩ => ?_)
 ·by_cases hlt : i < pts.length
  ·rw [List.getElem?_append_left hlt] at hi
   have hi' : i < args.size := by omega
   have h1 : (args ++ Array.replicate (fn.ntmps - args.size) undef).getD i undef = args[i] := by
    rw [Array.getD_eq_getD_getElem?, Array.getElem?_append_left hi', Array.getElem?_eq_getElem hi']
    rfl
   show RepS w g tv ((args ++ Array.replicate (fn.ntmps - args.size) undef).getD i undef)
   rw [h1]
   exact hargs i tv _ hi (Array.getElem?_eq_getElem hi')
  ·rw [List.getElem?_append_right (by omega), List.getElem?_replicate] at hi
   split at hi
   ·simp only [Option.some.injEq] at hi
    subst hi
    exact .one _ _ (.dead _)
   ·cases hi
 ·show (args ++ Array.replicate (fn.ntmps - args.size) undef).size = _
  simp [hsz]
 ·simp [St.root] at hk
 ·simp [St.root] at hk
 ·rcases Nat.lt_or_ge b w.heap.size with h1 | h1
  ·rcases hg b h1 with h2 | h2 <;> rw [h2] <;> simp
  ·rw [hg2 b h1]; simp
 ·obtain ⟨he, rvs, tvs, tvs', h1, h2, h3, h4, h5⟩ := hE
  have hlen : rvs.length = tvs.length := by
   have := congrArg List.length h3
   simpa using this
  obtain ⟨us, hul, hur, hrep⟩ := hR.resultList h3
  have hrun := run_results (P := P) h1 h2 a.tmps w' hul hur
  have hL : Later w w' := ⟨hR.ks.os, hR.ks.tape, hR.ks.output, hR.ks.size, fun b hb => (hR.ks.block b hb (hg b hb)).1⟩
  let gf : Gh := { g' with o := fun b => if b < w.heap.size then g.o b else if b < w'.heap.size then .ro else .outer }
  have hgf : ∀ b, g'.o b = .ro → gf.o b = .ro ∧ w'.heap[b]? = w'.heap[b]? := fun b hb => by
   refine ⟨?_, rfl⟩
   show (if b < w.heap.size then g.o b else if b < w'.heap.size then Tag.ro else Tag.outer) = .ro
   rcases Nat.lt_or_ge b w.heap.size with h6 | h6
   ·rw [if_pos h6, ← (hR.ks.block b h6 (hg b h6)).2]; exact hb
   ·rw [if_neg (by omega)]
    rcases Nat.lt_or_ge b w'.heap.size with h7 | h7
    ·rw [if_pos h7]
    ·rw [hR.ks.fresh b h7] at hb; cases hb
  have hroot : ∀ k b, (g'.o b).root? = some k → b < w'.heap.size → gf.o b = .ro := fun k b hb h7 => by
   show (if b < w.heap.size then g.o b else if b < w'.heap.size then Tag.ro else Tag.outer) = .ro
   rcases Nat.lt_or_ge b w.heap.size with h6 | h6
   ·rw [(hR.ks.block b h6 (hg b h6)).2] at hb
    rcases hg b h6 with h8 | h8 <;> rw [h8] at hb <;> cases hb
   ·rw [if_neg (by omega), if_pos h7]
  have hC : ∀ c c' u, SnapC st c c' → RepV w' g' c u → RepV w' gf c' u := fun c c' u hs hv => by
   cases hs with
   | ro d => exact Ro.mono hgf hv
   | ref h hw =>
    have h8 : u = _ := hv.1
    rw [h8]
    exact ((hR.cellAt h).1 _ rfl).roAt hw fun b hb hlt => hroot _ b hb hlt
  have hV : ∀ t t' u, FrzV st t t' → RepT w' g' t u → RepT w' gf t' u := fun t t' u hs hv => by
   cases hs with
   | c h => cases hv with | c _ _ hv => exact .c _ _ (hC _ _ _ h hv)
   | @agg l0 l1 h =>
    cases hv with
    | agg _ us hsz hv =>
     obtain ⟨h6, h7⟩ := h.get
     refine .agg _ us (by rw [h6]; exact hsz) fun j c' u hj hu => ?_
     have hj' : j < l0.length := by rw [← h6]; exact (List.getElem?_eq_some_iff.1 hj).1
     exact hC _ _ _ (h7 j _ c' (List.getElem?_eq_getElem hj') hj) (hv j _ u (List.getElem?_eq_getElem hj') hu)
   | cptr ds => cases hv with | cptr _ b off us ho hcell => exact .cptr ds b off us (hgf b ho).1 fun j d hj => ⟨(hcell j d hj).1, (hcell j d hj).2.mono hgf⟩
  have h6 := h4.get
  have hrep' : ∀ (i : Nat) t u, tvs'[i]? = some t → us[i]? = some u → RepT w' gf t u := fun i t u hi hu => by
   obtain ⟨t0, h7, h8⟩ := h6.2 i t hi
   exact hV _ _ _ h8 (hrep i t0 u h7 hu)
  have ho : ∀ b, gf.o b = .ro → (b < w.heap.size ∧ g.o b = .ro) ∨ (w.heap.size ≤ b ∧ b < w'.heap.size) := fun b hb => by
   have hb : (if b < w.heap.size then g.o b else if b < w'.heap.size then Tag.ro else Tag.outer) = .ro := hb
   rcases Nat.lt_or_ge b w.heap.size with h6 | h6
   ·rw [if_pos h6] at hb
    exact .inl ⟨h6, hb⟩
   ·rw [if_neg (by omega)] at hb
    rcases Nat.lt_or_ge b w'.heap.size with h7 | h7
    ·exact .inr ⟨h6, h7⟩
    ·rw [if_neg (by omega)] at hb; cases hb
  have hval : RepS w' gf (resT tvs') (tupV us) := by
   have htup : ∀ l : List Value, l.length = tvs'.length → (∀ (i : Nat) t u, tvs'[i]? = some t → l[i]? = some u → RepT w' gf t u) → RepS w' gf (.tup tvs') (.tuple l.toArray) := fun l hl hh =>
    .tup _ _ (by simp [hl]) fun j t u hj hu => hh j t u hj (by simpa using hu)
   have hl := htup us (by rw [h6.1]; omega) hrep'
   have hlu : us.length = tvs'.length := by rw [h6.1]; omega
   clear hrun hur h3 h4 h5 h6 hrep
   match us, tvs', hlu with
   | [], [], _ => exact hl
   | [t], [tv], _ => exact .one _ _ (hrep' 0 tv _ rfl rfl)
   | _ :: _ :: _, _ :: _ :: _, _ => exact hl
  have hfin : ∃ v, (results fn a.tmps).run P w' = .ok v w' ∧ ∃ v_1 g', Ending.returned v = Ending.returned v_1 ∧ Later w w' ∧ (∀ b, g'.o b = .ro → (b < w.heap.size ∧ g.o b = .ro) ∨ (w.heap.size ≤ b ∧ b < w'.heap.size)) ∧ RepS w' g' t v_1 :=
   ⟨_, hrun, _, gf, rfl, hL, ho, by rw [h5]; exact hval⟩
  rcases he with rfl | rfl
  ·exact ⟨hR.df, hfin⟩
  ·exact ⟨hR.df, hfin⟩
variable {w0 : World} {g0 : Gh} {st : St}
theorem OpM.callA {o : Oper} {Q : St → Prop} {f : FuncId} {cx : Operand} {args : List Operand} {tys : Array TypeId} {fn : Func} (ho : o.op = .call { callee := .value cx, args := args.toArray, argTypes := tys }) (hcx : T.opd 0 st cx = some (.fn f []))
  (hf : P.funcs[f]? = some fn) (hb : fn.body.isNone = false) (hn : (fn.name == "runtime.NumGoroutine") = false) {ts : List TS} (hx : opds st args = some ts) {t : TS} (hc : FunA P f ts t) (hro : roSs ts = true) (hrt : roS t = true)
  (hq : Q (st.put o.dst t)) : OpM P w0 g0 o st Q := fun a w g hR K' hK' => by
 have h1 := hR.opds hx
 let gc : Gh := { g with o := fun b => roTag (g.o b) }
 have hgc : ∀ b, gc.o b = .ro ↔ g.o b = .ro := fun b => roTag_ro
 have hcall := hc w gc (args.map a.eval).toArray (fun b hb => roTag_or _) (fun b hb => by
  show roTag (g.o b) = .outer
  rw [hR.ks.fresh b hb]; rfl) (by simp [h1.1]) (fun i t u hi hu => roS_rep (fun b hb => ⟨(hgc b).2 hb, rfl⟩) (roSs_mem hro t (List.mem_of_getElem? hi)) (h1.2 i t u hi (by simpa using hu)))
 rw [run_enter hR ho hcx hf hb hn w]
 refine ⟨Later.refl w, hcall.mono fun e w' ⟨v, g', he, hL, hg', hv⟩ => ⟨v, he, hL, hK' _ _ _ _ hq ((hR.later hL).put (roS_rep (fun b hb => ⟨?_, rfl⟩) hrt hv) o.dst)⟩⟩
 show (if b < w.heap.size then g.o b else if b < w'.heap.size then Tag.ro else Tag.outer) = .ro
 rcases hg' b hb with ⟨h2, h3⟩ | ⟨h2, h3⟩
 ·rw [if_pos h2]; exact (hgc b).1 h3
 ·rw [if_neg (by omega), if_pos h3]
theorem OpM.callCA {o : Oper} {Q : St → Prop} {f : FuncId} {caps : List TV} {cx : Operand} {args : List Operand} {tys : Array TypeId} {fn : Func} (ho : o.op = .call { callee := .value cx, args := args.toArray, argTypes := tys }) (hcx : T.opd 0 st cx = some (.fn f caps))
  (hf : P.funcs[f]? = some fn) (hb : fn.body.isNone = false) (hn : (fn.name == "runtime.NumGoroutine") = false) {ts : List TS} (hx : opds st args = some ts) {t : TS} (hc : FunA P f (ts ++ caps.map TS.one) t) (hro : roSs (ts ++ caps.map TS.one) = true) (hrt : roS t = true)
  (hq : Q (st.put o.dst t)) : OpM P w0 g0 o st Q := fun a w g hR K' hK' => by
 obtain ⟨us, he, h1, h1'⟩ := hR.argsC hcx hx
 let gc : Gh := { g with o := fun b => roTag (g.o b) }
 have hgc : ∀ b, gc.o b = .ro ↔ g.o b = .ro := fun b => roTag_ro
 have hcall := hc w gc ((args.map a.eval).toArray ++ us) (fun b hb => roTag_or _) (fun b hb => by
  show roTag (g.o b) = .outer
  rw [hR.ks.fresh b hb]; rfl) (by rw [h1]) (fun i t u hi hu => roS_rep (fun b hb => ⟨(hgc b).2 hb, rfl⟩) (roSs_mem hro t (List.mem_of_getElem? hi)) (h1' i t u hi hu))
 rw [run_enterC he ho hf hb hn w]
 refine ⟨Later.refl w, hcall.mono fun e w' ⟨v, g', he, hL, hg', hv⟩ => ⟨v, he, hL, hK' _ _ _ _ hq ((hR.later hL).put (roS_rep (fun b hb => ⟨?_, rfl⟩) hrt hv) o.dst)⟩⟩
 show (if b < w.heap.size then g.o b else if b < w'.heap.size then Tag.ro else Tag.outer) = .ro
 rcases hg' b hb with ⟨h2, h3⟩ | ⟨h2, h3⟩
 ·rw [if_pos h2]; exact (hgc b).1 h3
 ·rw [if_neg (by omega), if_pos h3]
end
def frzW (rs : Rs) (t : TV) (k : TV → Prop) : Prop := match t with
 | .c c => snapCW rs c fun c => k (.c c)
 | .agg cs => snapCsW rs cs fun cs => k (.agg cs)
 | .cptr ds => k (.cptr ds)
 | _ => False
def frzsW (rs : Rs) : List TV → (List TV → Prop) → Prop
 | [], k => k []
 | t :: l, k => frzW rs t fun t => frzsW rs l fun l => k (t :: l)
theorem frzW_of {n : Nat} {e : List En} {rs : Rs} {t : TV} {k : TV → Prop} (h : frzW rs t k) : ∃ t', FrzV (stOf n e rs) t t' ∧ k t' := by
 unfold frzW at h
 split at h
 ·obtain ⟨c', h1, h2⟩ := snapCW_of (n := n) (e := e) h
  exact ⟨_, .c h1, h2⟩
 ·obtain ⟨c', h1, h2⟩ := snapCsW_of (n := n) (e := e) h
  exact ⟨_, .agg h1, h2⟩
 ·exact ⟨_, .cptr _, h⟩
 ·exact h.elim
theorem frzsW_of {n : Nat} {e : List En} {rs : Rs} : ∀ {l : List TV} {k : List TV → Prop}, frzsW rs l k → ∃ l', FrzVs (stOf n e rs) l l' ∧ k l'
 | [], k, h => ⟨[], .nil, h⟩
 | t :: l, k, h => by
  obtain ⟨t', h1, h2⟩ := frzW_of (n := n) (e := e) h
  obtain ⟨l', h3, h4⟩ := frzsW_of (l := l) h2
  exact ⟨_, .cons h1 h3, h4⟩
def endAR (P : Program) (n : Nat) (rv : List ResultVar) (t : TS) (e : List En) (rs : Rs) : Prop := ressW P n e rs rv fun tvs => BR (Nat.ble rv.length 4) (frzsW rs tvs fun tvs => t = resT tvs) False
def endA (P : Program) (n : Nat) (rv : List ResultVar) (t : TS) : Kx := fun ex e rs => match ex with
 | .normal => endAR P n rv t e rs
 | .ret => endAR P n rv t e rs
 | _ => False
theorem endA_of {P : Program} {n : Nat} {fn : Func} {t : TS} {ex : Exit} {st : St} (h : Lf n (endA P n fn.results.toList t) ex st) : EndsA P fn t ex st := by
 obtain ⟨e, rs, rfl, h⟩ := h
 have key : endAR P n fn.results.toList t e rs → ∀ ex, (ex = .normal ∨ ex = .ret) → EndsA P fn t ex (stOf n e rs) := fun h ex hex => by
  obtain ⟨tvs, h1, h2⟩ := ressW_of h
  obtain ⟨h3, h4⟩ := BR_yes h2
  obtain ⟨tvs', h5, h6⟩ := frzsW_of (n := n) (e := e) h4
  exact ⟨hex, fn.results.toList, tvs, tvs', rfl, Nat.le_of_ble_eq_true h3, h1, h5, h6⟩
 unfold endA at h
 split at h
 ·exact key h _ (.inl rfl)
 ·exact key h _ (.inr rfl)
 ·exact h.elim
theorem FunA.w {P : Program} {f : FuncId} {fn : Func} {c : Code} {pts : List TS} {t : TS} (n : Nat) (hf : P.funcs[f]? = some fn) (h : ∀ w g0, mostS pts → argsW 0 pts fun e => wC P w g0 n c e [] (endA P n fn.results.toList t))
  (hb : fn.body = some c := by exact rfl) (hn : fn.ntmps = n := by exact rfl) (hl0 : Nat.ble pts.length n = true := by exact rfl) : FunA P f pts t := by
 have hl := Nat.le_of_ble_eq_true hl0
 subst hn
 refine FunA.of hf hb hl fun w g0 => TC.mostS fun hM => ?_
 obtain ⟨e, h1, h2⟩ := argsW_of (m := 0) (h w g0 hM)
 rw [args_st hl h1]
 exact (wC_of h2).mono fun ex st hl => endA_of hl
theorem callA {P : Program} {w0 : World} {g0 : Gh} {n : Nat} {e : List En} {rs : Rs} {K : Kn} {m : Bool} {f : FuncId} {ts : List TS} {d : Nat} {t : TS} (hc : FunA P f ts t) (hk : forceS t fun t => K (.set d t :: e) rs)
  (hro : roSs ts = true := by exact rfl) (hrt : roS t = true := by exact rfl) (hf : Callable P f := by exact .mk rfl rfl rfl) : CallW m P w0 g0 n e rs f ts (some d) K := ⟨fun o cx args tys ho hcx hd hx => by
 obtain ⟨fn, h1, h2, h3⟩ := hf
 refine .of (OpM.callA ho hcx h1 h2 h3 hx hc hro hrt ?_)
 rw [hd]
 exact .put (forceS_iff.1 hk)⟩
theorem callCA {P : Program} {w0 : World} {g0 : Gh} {n : Nat} {e : List En} {rs : Rs} {K : Kn} {m : Bool} {f : FuncId} {ts : List TS} {caps : List TV} {d : Nat} {t : TS} (hc : FunA P f (ts ++ caps.map TS.one) t) (hk : forceS t fun t => K (.set d t :: e) rs)
  (hro : roSs (ts ++ caps.map TS.one) = true := by exact rfl) (hrt : roS t = true := by exact rfl) (hf : Callable P f := by exact .mk rfl rfl rfl) : CallC m P w0 g0 n e rs f ts caps (some d) K := ⟨fun o cx args tys ho hcx hd hx => by
 obtain ⟨fn, h1, h2, h3⟩ := hf
 refine .of (OpM.callCA ho hcx h1 h2 h3 hx hc hro hrt ?_)
 rw [hd]
 exact .put (forceS_iff.1 hk)⟩
end Go.Proofs.YteelmdpahpggkaaGreat.T

