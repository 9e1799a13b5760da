
import Derived.Test.YtcmoifejjodgcaaRgp
namespace Go.Proofs.Ytcmoifejjodgcaa.T
open Go
set_option linter.unusedVariables false
set_option linter.unusedSimpArgs false
theorem stOf_same {n i : Nat} {e : List En} {rs : Rs} {t : TS} (h : (stOf n e rs).tmps[i]? = some t) : stOf n (.set i t :: e) rs = stOf n e rs := by
 rw [← stOf_put]
 simp only [St.put]
 congr 1
 apply List.ext_getElem?
 intro j
 rw [List.getElem?_set]
 split
 ·rename_i hij
  subst hij
  show _ = (stOf n e rs).tmps[i]?
  rw [h]
  split
  ·rfl
  ·rename_i hl
   rw [List.getElem?_eq_none (by omega)] at h
   cases h
 ·rfl
def guardW (n : Nat) (ops : List Oper) (gd : Option (Nat × Bool)) (e : List En) (yes no : List En → Prop) : Prop := match gd with
 | none => yes e
 | some jw => (match jw with
  | (j, want) => nthW ops j fun oj => (match oj.dst with
   | some d => getW n e d fun t => (match t with
    | .tup ts => (match ts with | [] => no e | _ => False)
    | .one (.c (.ro (.v (.bool b)))) => BR b (BR want (yes (.set d (B true) :: e)) (no (.set d (B true) :: e))) (BR want (no (.set d (B false) :: e)) (yes (.set d (B false) :: e)))
    | _ => False)
   | none => False))
theorem guardW_of {n : Nat} {ops : Array Oper} {o : Oper} {e : List En} {rs : Rs} {Y N : List En → Prop} (h : guardW n ops.toList o.guard e Y N) :
  ∃ e', stOf n e' rs = stOf n e rs ∧ ((yes ops (stOf n e' rs) o ∧ Y e') ∨ (nope ops (stOf n e' rs) o ∧ N e')) := by
 unfold guardW at h
 split at h
 ·rename_i hg
  exact ⟨e, rfl, .inl ⟨yes_none hg, h⟩⟩
 ·rename_i jw hg
  obtain ⟨j, want⟩ := jw
  simp only at h
  obtain ⟨oj, h1, h2⟩ := nthW_of h
  have h1' : ops[j]? = some oj := by simpa using h1
  split at h2
  ·rename_i d hd
   obtain ⟨t, h3, h4⟩ := getW_of (rs := rs) h2
   have hgo : ∀ e', stOf n e' rs = stOf n e rs → guardOf ops (stOf n e' rs) j = some t := fun e' he => by
    rw [he]
    simp [guardOf, h1', hd, h3]
   split at h4
   ·split at h4
    ·exact ⟨e, rfl, .inr ⟨nope_u hg (hgo e rfl), h4⟩⟩
    ·exact h4.elim
   ·have hs := stOf_same h3
    rcases BR_iff.1 h4 with ⟨rfl, h5⟩ | ⟨rfl, h5⟩
    ·rcases BR_iff.1 h5 with ⟨rfl, h6⟩ | ⟨rfl, h6⟩
     ·exact ⟨_, hs, .inl ⟨yes_some hg (hgo _ hs) rfl, h6⟩⟩
     ·exact ⟨_, hs, .inr ⟨nope_b hg (hgo _ hs) rfl, h6⟩⟩
    ·rcases BR_iff.1 h5 with ⟨rfl, h6⟩ | ⟨rfl, h6⟩
     ·exact ⟨_, hs, .inr ⟨nope_b hg (hgo _ hs) rfl, h6⟩⟩
     ·exact ⟨_, hs, .inl ⟨yes_some hg (hgo _ hs) rfl, h6⟩⟩
   ·exact h4.elim
  ·exact h2.elim
section
variable {P : Program} {w0 : World} {g0 : Gh} {st : St}
theorem TL.yes {ops : Array Oper} {o : Oper} {rest : List Oper} {Q : St → Prop} (hg : yes ops st o) (h : OpT P w0 g0 o st (fun st' => TL P w0 g0 ops rest st' Q)) : TL P w0 g0 ops (o :: rest) st Q := fun a w g hR Q' hQ => wpList_step fun K hK => by
 rw [if_pos (yes_of hg hR)]
 exact h a w g hR K Q' fun st' a' w' g' q r => hK _ _ (q a' w' g' r Q' hQ)
theorem OpT.mono {o : Oper} {Q Q' : St → Prop} (h : OpT P w0 g0 o st Q) (hq : ∀ st, Q st → Q' st) : OpT P w0 g0 o st Q' := fun a w g hR K Q2 hK => h a w g hR K Q2 fun st' a' w' g' q r => hK st' a' w' g' (hq _ q) r
theorem OpM.mono {o : Oper} {Q Q' : St → Prop} (h : OpM P w0 g0 o st Q) (hq : ∀ st, Q st → Q' st) : OpM P w0 g0 o st Q' := fun a w g hR K hK => h a w g hR K fun st' a' w' g' q r => hK st' a' w' g' (hq _ q) r
end
def wL (P : Program) (w0 : World) (g0 : Gh) (n : Nat) (ops l : List Oper) : List En → Rs → Kn → Prop :=
 @List.rec Oper (fun _ => List En → Rs → Kn → Prop) (fun e rs K => K e rs)
  (fun o _ ih e rs K => guardW n ops o.guard e (fun e => stepW false P w0 g0 n o e rs fun e rs => ih e rs K) (fun e => putW o.dst U e rs fun e rs => ih e rs K)) l
theorem wL_cons {P : Program} {w0 : World} {g0 : Gh} {n : Nat} {ops : List Oper} {o : Oper} {l : List Oper} {e : List En} {rs : Rs} {K : Kn} (h : wL P w0 g0 n ops (o :: l) e rs K) : guardW n ops o.guard e (fun e => stepW false P w0 g0 n o e rs fun e rs => wL P w0 g0 n ops l e rs K) (fun e => putW o.dst U e rs fun e rs => wL P w0 g0 n ops l e rs K) := h
theorem wL_of {P : Program} {w0 : World} {g0 : Gh} {n : Nat} {ops : Array Oper} : ∀ {l : List Oper} {e : List En} {rs : Rs} {K : Kn}, wL P w0 g0 n ops.toList l e rs K → TL P w0 g0 ops l (stOf n e rs) (Lg n K)
 | [], e, rs, K, h => .nil (.mk h)
 | o :: l, e, rs, K, h => by
  obtain ⟨e', he, h1⟩ := guardW_of (rs := rs) (wL_cons h)
  rw [← he]
  rcases h1 with ⟨h2, h3⟩ | ⟨h2, h3⟩
  ·refine .yes h2 ?_
   have h4 : OpT P w0 g0 o (stOf n e' rs) _ := stepW_of h3
   exact h4.mono fun st ⟨e2, rs2, hs, hk⟩ => by subst hs; exact wL_of hk
  ·obtain ⟨e2, rs2, hs, hk⟩ := putW_of (n := n) h3
   exact .skip h2 hs (wL_of hk)
inductive CallQ (P : Program) (w0 : World) (g0 : Gh) (e : List En) (rs : Rs) (f : FuncId) (ts : List TS) (dst : Option Nat) (K : Kn) : Prop
 | mk {pts : List TS} {t : TS} {x : Value} (hc : FunK P w0 g0 f pts (RP t)) (hs : snapsW rs ts fun l => l = pts) (hp : freeS t = some x) (hf : Callable P f) (hk : putW dst t e rs K)
theorem callQ {P : Program} {w0 : World} {g0 : Gh} {e : List En} {rs : Rs} {K : Kn} {f : FuncId} {ts pts : List TS} {d : Nat} {t : TS} {x : Value} (hc : FunK P w0 g0 f pts (RP t)) (hk : K (.set d t :: e) rs)
  (hs : snapsW rs ts fun l => l = pts := by (repeat first | exact rfl | refine WholeW.mk (by first | exact WD.w | assumption) ?_ | refine ixn (by assumption) ?_); done)
  (hp : freeS t = some x := by exact rfl) (hf : Callable P f := by exact .mk rfl rfl rfl) : CallQ P w0 g0 e rs f ts (some d) K := .mk hc hs hp hf hk
def stepQ (P : Program) (w0 : World) (g0 : Gh) (n : Nat) (o : Oper) (e : List En) (rs : Rs) (K : Kn) : Prop := match o with
 | ⟨dst, op, _, _, _, _⟩ => (match op with
  | .call c => (match c with
   | ⟨cl, as, ts⟩ => (match cl with
    | .value cx => opdW n e 0 cx fun t => (match t with
     | .fn f l => (match l with
      | [] => (match as with | ⟨as⟩ => opdsW n e as fun ts => CallQ P w0 g0 e rs f ts dst K)
      | _ => False)
     | _ => False)
    | _ => valW P n e rs (.call ⟨cl, as, ts⟩) fun t => putW dst t e rs K))
  | op => valW P n e rs op fun t => putW dst t e rs K)
def wQ (P : Program) (w0 : World) (g0 : Gh) (n : Nat) (ops l : List Oper) : List En → Rs → Kn → Prop :=
 @List.rec Oper (fun _ => List En → Rs → Kn → Prop) (fun e rs K => K e rs)
  (fun o _ ih e rs K => guardW n ops o.guard e (fun e => stepQ P w0 g0 n o e rs fun e rs => ih e rs K) (fun e => putW o.dst U e rs fun e rs => ih e rs K)) l
theorem wQ_cons {P : Program} {w0 : World} {g0 : Gh} {n : Nat} {ops : List Oper} {o : Oper} {l : List Oper} {e : List En} {rs : Rs} {K : Kn} (h : wQ P w0 g0 n ops (o :: l) e rs K) : guardW n ops o.guard e (fun e => stepQ P w0 g0 n o e rs fun e rs => wQ P w0 g0 n ops l e rs K) (fun e => putW o.dst U e rs fun e rs => wQ P w0 g0 n ops l e rs K) := h
section
variable {P : Program} {w0 : World} {g0 : Gh} {st : St}
theorem TQ.yes {ops : Array Oper} {o : Oper} {rest : List Oper} {st' : St} {Q : St → Prop} {t : TS} (hg : yes ops st o) (h : Val P w0 g0 o st t) (hp : st.put o.dst t = st') (hq : TQ P w0 g0 ops rest st' Q) : TQ P w0 g0 ops (o :: rest) st Q := by
 rcases hg with hg | ⟨j, want, b, hg, hb, he⟩
 ·exact TQ.valE hg h hp hq
 ·exact TQ.guardE hg hb he h hp hq
end
theorem wQ_of {P : Program} {w0 : World} {g0 : Gh} {n : Nat} {ops : Array Oper} : ∀ {l : List Oper} {e : List En} {rs : Rs} {K : Kn}, wQ P w0 g0 n ops.toList l e rs K → TQ P w0 g0 ops l (stOf n e rs) (Lg n K)
 | [], e, rs, K, h => .nil (.mk h)
 | o :: l, e, rs, K, h => by
  obtain ⟨e', he, h1⟩ := guardW_of (rs := rs) (wQ_cons h)
  rw [← he]
  rcases h1 with ⟨h2, h3⟩ | ⟨h2, h3⟩
  ·obtain ⟨dst, op, ty, pos, af, gd⟩ := o
   have hval : (valW P n e' rs op fun t => putW dst t e' rs fun e rs => wQ P w0 g0 n ops.toList l e rs K) → TQ P w0 g0 ops (⟨dst, op, ty, pos, af, gd⟩ :: l) (stOf n e' rs) (Lg n K) := fun hv => by
    obtain ⟨t, h4, h5⟩ := valW_of (w0 := w0) (g0 := g0) (o := ⟨dst, op, ty, pos, af, gd⟩) hv
    obtain ⟨e2, rs2, hs, hk⟩ := putW_of (n := n) h5
    exact .yes h2 h4 hs (wQ_of hk)
   unfold stepQ at h3
   simp only at h3
   split at h3
   ·rename_i c
    obtain ⟨cl, ⟨as⟩, ts⟩ := c
    simp only at h3
    split at h3
    ·obtain ⟨t, h4, h5⟩ := opdW_of (rs := rs) h3
     split at h5
     ·split at h5
      ·obtain ⟨ts, h6, h7⟩ := opdsW_of (rs := rs) h5
       obtain ⟨hc, hs, hp, ⟨fn, hf1, hf2, hf3⟩, hk⟩ := h7
       obtain ⟨l', h8, rfl⟩ := snapsW_of (n := n) (e := e') hs
       obtain ⟨e2, rs2, hs2, hk2⟩ := putW_of (n := n) hk
       exact .callF h2 rfl h4 hf1 hf2 hf3 h6 hc h8 hp hs2 (wQ_of hk2)
      ·exact h5.elim
     ·exact h5.elim
    ·exact hval h3
   ·exact hval h3
  ·obtain ⟨e2, rs2, hs, hk⟩ := putW_of (n := n) h3
   exact .skip h2 hs (wQ_of hk)
section
variable {P : Program} {w0 : World} {g0 : Gh} {st : St}
theorem TU.skip {ops : Array Oper} {ws bs s : List Nat} {i : Nat} {l : List (Nat × Nat)} {st' : St} {Q : St → Prop} {o : Oper} {tl : List Oper} (hne : ws.contains i = false) (hd0 : ops.toList.drop i = o :: tl) (hn : nope ops st o) (hp : st.put o.dst U = st')
  (hq : TU P w0 g0 ops ws bs s l st' Q) : TU P w0 g0 ops ws bs s ((i, 0) :: l) st Q := TU.quiet hne hd0 (fun a w g hR => ⟨undef, .inr ⟨nope_of hn hR, rfl⟩, hp ▸ hR.put U_mk o.dst⟩) hq
theorem TU.skip1 {ops : Array Oper} {ws bs s : List Nat} {i : Nat} {l : List (Nat × Nat)} {st' : St} {Q : St → Prop} {o : Oper} {tl : List Oper} (hd0 : ops.toList.drop i = o :: tl) (hn : nope ops st o) (hp : st.put o.dst U = st')
  (hq : TU P w0 g0 ops ws bs s l st' Q) : TU P w0 g0 ops ws bs s ((i, 1) :: l) st Q := fun listed hs hc he a w g hR Q' hQ => by
 have hi := at_drop hd0
 simp only [eagerV, Bool.and_eq_true, beq_iff_eq] at he
 have h1 := he.1
 have hri : i ∈ Region.ready .any ops listed := by rw [h1]; exact List.mem_singleton.2 rfl
 have hnx := hq _ hs (hc.set hri) he.2 _ w g (hp ▸ hR.put U_mk o.dst) Q' hQ
 have hw := nope_of hn hR
 refine ⟨fun h0 => (by rw [h1] at h0; cases h0), fun j hj => ?_⟩
 rw [h1] at hj
 rw [List.mem_singleton.1 hj]
 split
 ·split
  ·unfold sOp; simp only [hi, hw, Bool.false_eq_true, if_false]; exact hnx
  ·unfold wpOp; simp only [hi, hw, Bool.false_eq_true, if_false]; exact hnx
 ·unfold mOp; simp only [hi, hw, Bool.false_eq_true, if_false]; exact hnx
end
theorem drop_of_get {α : Type} {l : List α} {i : Nat} {x : α} (h : l[i]? = some x) : l.drop i = x :: l.drop (i + 1) := by
 obtain ⟨h1, h2⟩ := List.getElem?_eq_some_iff.1 h
 rw [List.drop_eq_getElem_cons h1, h2]
def memB (i : Nat) : List Nat → Bool
 | [] => false
 | x :: l => Nat.beq i x || memB i l
theorem memB_eq {i : Nat} : ∀ {l : List Nat}, memB i l = l.contains i
 | [] => rfl
 | x :: l => by
  simp only [memB, List.contains_cons, memB_eq (l := l)]
  congr 1
  rw [Bool.eq_iff_iff, beq_iff_eq]
  exact ⟨Nat.eq_of_beq_eq_true, fun h => by subst h; exact Nat.beq_refl _⟩
def uYes (P : Program) (w0 : World) (g0 : Gh) (n : Nat) (ws : List Nat) (i b : Nat) (o : Oper) (e : List En) (rs : Rs) (K : Kn) : Prop := match b with
 | 0 => BR (memB i ws) False (valW P n e rs o.op fun t => putW o.dst t e rs K)
 | 1 => BR (memB i ws) (stepW false P w0 g0 n o e rs K) (stepW true P w0 g0 n o e rs K)
 | _ => False
def uNo (ws : List Nat) (i b : Nat) (o : Oper) (e : List En) (rs : Rs) (K : Kn) : Prop := match b with
 | 0 => BR (memB i ws) False (putW o.dst U e rs K)
 | 1 => putW o.dst U e rs K
 | _ => False
def wU (P : Program) (w0 : World) (g0 : Gh) (n : Nat) (ops : List Oper) (ws : List Nat) (l : List (Nat × Nat)) : List En → Rs → Kn → Prop :=
 @List.rec (Nat × Nat) (fun _ => List En → Rs → Kn → Prop) (fun e rs K => K e rs) (fun ib _ ih e rs K => match ib with
 | (i, b) => nthW ops i fun o => guardW n ops o.guard e (fun e => uYes P w0 g0 n ws i b o e rs fun e rs => ih e rs K) (fun e => uNo ws i b o e rs fun e rs => ih e rs K)) l
theorem wU_cons {P : Program} {w0 : World} {g0 : Gh} {n : Nat} {ops : List Oper} {ws : List Nat} {i b : Nat} {l : List (Nat × Nat)} {e : List En} {rs : Rs} {K : Kn} (h : wU P w0 g0 n ops ws ((i, b) :: l) e rs K) :
  nthW ops i fun o => guardW n ops o.guard e (fun e => uYes P w0 g0 n ws i b o e rs fun e rs => wU P w0 g0 n ops ws l e rs K) (fun e => uNo ws i b o e rs fun e rs => wU P w0 g0 n ops ws l e rs K) := h
theorem wU_of {P : Program} {w0 : World} {g0 : Gh} {n : Nat} {ops : Array Oper} {ws : List Nat} : ∀ {l : List (Nat × Nat)} {e : List En} {rs : Rs} {K : Kn}, wU P w0 g0 n ops.toList ws l e rs K → TU P w0 g0 ops ws [] [] l (stOf n e rs) (Lg n K)
 | [], e, rs, K, h => .nil (.mk h)
 | (i, b) :: l, e, rs, K, h => by
  obtain ⟨o, h0, h1⟩ := nthW_of (wU_cons h)
  have hd0 := drop_of_get h0
  obtain ⟨e', he, h1⟩ := guardW_of (rs := rs) h1
  rw [← he]
  rcases h1 with ⟨h2, h3⟩ | ⟨h2, h3⟩
  ·unfold uYes at h3
   split at h3
   ·obtain ⟨h4, h5⟩ := BR_no h3
    obtain ⟨t, h6, h7⟩ := valW_of (w0 := w0) (g0 := g0) h5
    obtain ⟨e2, rs2, hs, hk⟩ := putW_of (n := n) h7
    exact .valE (by rw [← memB_eq]; exact h4) hd0 h2 h6 hs (wU_of hk)
   ·rcases BR_iff.1 h3 with ⟨h4, h5⟩ | ⟨h4, h5⟩
    ·refine .opK ⟨by rw [← memB_eq]; exact h4, rfl⟩ hd0 h2 fun K2 hK2 => ?_
     have h6 : OpT P w0 g0 o (stOf n e' rs) _ := stepW_of h5
     exact h6.mono fun st ⟨e2, rs2, hs, hk⟩ => hK2 st (by subst hs; exact wU_of hk)
    ·refine .opM (by rw [← memB_eq]; exact h4) hd0 h2 fun K2 hK2 => ?_
     have h6 : OpM P w0 g0 o (stOf n e' rs) _ := stepW_of (m := true) h5
     exact h6.mono fun st ⟨e2, rs2, hs, hk⟩ => hK2 st (by subst hs; exact wU_of hk)
   ·exact h3.elim
  ·unfold uNo at h3
   split at h3
   ·obtain ⟨h4, h5⟩ := BR_no h3
    obtain ⟨e2, rs2, hs, hk⟩ := putW_of (n := n) h5
    exact .skip (by rw [← memB_eq]; exact h4) hd0 h2 hs (wU_of hk)
   ·obtain ⟨e2, rs2, hs, hk⟩ := putW_of (n := n) h3
    exact .skip1 hd0 h2 hs (wU_of hk)
   ·exact h3.elim
end Go.Proofs.Ytcmoifejjodgcaa.T

