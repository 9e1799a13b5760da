
import Derived.Test.YtcmoifejjodgcaaRnp
import Derived.Test.YtcmoifejjodgcaaTzop
import Derived.Test.YtcmoifejjodgcaaNgp
namespace Go.Proofs.Ytcmoifejjodgcaa.T
open Go
set_option linter.unusedVariables false
set_option linter.unusedSimpArgs false
def pinIn (e : List En) (b : Nat) : List Nat → Prop → Prop
 | [], _ => False
 | x :: l, K => lookW e x fun t => forceS t fun t => match t with
  | .one (.ptr pl) => (match pl with | ⟨k, p, _⟩ => (match p with | [] => BR (Nat.beq k b) K (pinIn e b l K) | _ => pinIn e b l K))
  | _ => pinIn e b l K
theorem pinIn_of {n : Nat} {e : List En} {rs : Rs} {b : Nat} {K : Prop} : ∀ {l : List Nat}, (∀ x ∈ l, x < n) → pinIn e b l K → (∃ x ∈ l, ∃ q, (stOf n e rs).tmps[x]? = some (.one (.ptr ⟨b, [], q⟩))) ∧ K
 | [], _, h => h.elim
 | x :: l, hn, h => by
  have h := forceS_iff.1 (lookW_of h)
  have go : pinIn e b l K → (∃ x' ∈ x :: l, ∃ q, (stOf n e rs).tmps[x']? = some (.one (.ptr ⟨b, [], q⟩))) ∧ K := fun h => by
   obtain ⟨⟨x', hx', q, h2⟩, hk⟩ := pinIn_of (rs := rs) (fun y hy => hn y (List.mem_cons_of_mem _ hy)) h
   exact ⟨⟨x', List.mem_cons_of_mem _ hx', q, h2⟩, hk⟩
  generalize ht : look e x = t at h
  split at h
  ·rename_i pl
   obtain ⟨k, p, q⟩ := pl
   simp only at h
   split at h
   ·rcases BR_iff.1 h with ⟨h1, h2⟩ | ⟨_, h2⟩
    ·have h1 := Nat.eq_of_beq_eq_true h1
     subst h1
     exact ⟨⟨x, List.mem_cons_self, q, by rw [stOf_get (hn x List.mem_cons_self), ht]⟩, h2⟩
    ·exact go h2
   ·exact go h
  ·exact go h
def ltAll (n : Nat) : List Nat → Bool
 | [] => true
 | x :: l => Nat.blt x n && ltAll n l
theorem ltAll_of {n : Nat} : ∀ {l : List Nat}, ltAll n l = true → ∀ x ∈ l, x < n
 | [], _, x, hx => by cases hx
 | y :: l, h, x, hx => by
  simp only [ltAll, Bool.and_eq_true] at h
  rcases List.mem_cons.1 hx with rfl | hx
  ·exact Nat.le_of_ble_eq_true h.1
  ·exact ltAll_of h.2 x hx
def valSW (P : Program) (n : Nat) (e : List En) (rs : Rs) (s : List Nat) (op : Op) (k : TS → Prop) : Prop := match op with
 | .fieldAddr t x f => opdW n e 0 x fun a => (match a with
  | .one (.ptr pl) => (match pl with | ⟨b, p, q⟩ => offW P t f fun off => oneOf (q + off) small fun q => k (.one (.ptr ⟨b, p, q⟩)))
  | _ => False)
 | .load t x => opdW n e 0 x fun a => (match a with
  | .one (.ptr pl) => (match pl with | ⟨b, p, q⟩ => (match p with
   | [] => BR (ltAll n s) (pinIn e b s (match aggT P t with
    | some false => cellW rs b [] q fun m c => BR m (valCW b [] q c fun c => k (.one (.c c))) False
    | _ => False)) False
   | _ => False))
  | _ => False)
 | .move x => BR (isNilC x) False (opdW n e 0 x k)
 | .assign x => BR (isNilC x) False (opdW n e 0 x k)
 | .extract x i => opdW n e 0 x fun a => (match a with
  | .tup ts => nthW ts i fun t => k (.one t)
  | _ => False)
 | _ => False
section
variable {P : Program} {w0 : World} {g0 : Gh} {n : Nat} {e : List En} {rs : Rs} {o : Oper}
theorem ValS.extract {st : St} {s : List Nat} {x : Operand} {i : Nat} {ts : List TV} {t : TV} (ho : o.op = .extract x i) (hx : T.opd 0 st x = some (.tup ts)) (hi : ts[i]? = some t) : ValS P w0 g0 s o st (.one t) := fun a w g hR => by
 have this := hR.opd hx
 generalize hv : a.eval x = v at this
 cases this with
 | tup ts us hs h =>
  have hlt : i < us.size := by rw [hs]; exact (List.getElem?_eq_some_iff.1 hi).1
  refine ⟨us[i], fun w' _ => ?_, .one _ _ (h i t _ hi (Array.getElem?_eq_getElem hlt))⟩
  simp [execOp, ho, hv, Instr.extract, Array.getElem?_eq_getElem hlt]
theorem valSW_of {s : List Nat} {k : TS → Prop} (h : valSW P n e rs s o.op k) : ∃ t, ValS P w0 g0 s o (stOf n e rs) t ∧ k t := by
 obtain ⟨dst, op, ty, pos, af, gd⟩ := o
 unfold valSW at h
 simp only at h
 split at h
 ·obtain ⟨a, h1, h2⟩ := opdW_of (rs := rs) h
  split at h2
  ·rename_i pl
   obtain ⟨b, p, q⟩ := pl
   simp only at h2
   obtain ⟨off, h3, h4⟩ := offW_of h2
   exact ⟨_, .field rfl h1 h3, oneOf_of h4⟩
  ·exact h2.elim
 ·obtain ⟨a, h1, h2⟩ := opdW_of (rs := rs) h
  split at h2
  ·rename_i pl
   obtain ⟨b, p, q⟩ := pl
   simp only at h2
   split at h2
   ·obtain ⟨h3, h4⟩ := BR_yes h2
    obtain ⟨⟨x0, hx0, q', hq⟩, h5⟩ := pinIn_of (rs := rs) (ltAll_of h3) h4
    split at h5
    ·rename_i ht
     obtain ⟨m, c, h6, h7, h8⟩ := cellW_of (n := n) (e := e) h5
     obtain ⟨rfl, h9⟩ := BR_yes h8
     exact ⟨_, .load rfl h1 x0 hx0 hq ht h6 h7, valCW_of h9⟩
    ·exact h5.elim
   ·exact h2.elim
  ·exact h2.elim
 ·rename_i x
  obtain ⟨h1, h2⟩ := BR_no h
  obtain ⟨t, h3, h4⟩ := opdW_of (rs := rs) h2
  exact ⟨t, .pure (.move 0 rfl h3) rfl, h4⟩
 ·rename_i x
  obtain ⟨h1, h2⟩ := BR_no h
  obtain ⟨t, h3, h4⟩ := opdW_of (rs := rs) h2
  exact ⟨t, .pure (.assign 0 rfl h3) rfl, h4⟩
 ·obtain ⟨a, h1, h2⟩ := opdW_of (rs := rs) h
  split at h2
  ·obtain ⟨t, h3, h4⟩ := nthW_of h2
   exact ⟨_, .extract rfl h1 h3, h4⟩
  ·exact h2.elim
 ·exact h.elim
end
def pinsW (e : List En) (rs : Rs) (ks : List Nat) : List Nat → Prop
 | [] => True
 | x :: l => lookW e x fun t => forceS t fun t => match t with
  | .one (.ptr pl) => (match pl with | ⟨a, p, q⟩ => BR (memB a ks) False (cellW rs a p q fun m _ => BR m (pinsW e rs ks l) False))
  | _ => False
theorem pinsW_of {n : Nat} {e : List En} {rs : Rs} {ks : List Nat} : ∀ {l : List Nat}, (∀ x ∈ l, x < n) → pinsW e rs ks l → PinsOk (stOf n e rs) ks l
 | [], _, _ => .nil
 | x :: l, hn, h => by
  have h := forceS_iff.1 (lookW_of h)
  generalize ht : look e x = t at h
  split at h
  ·rename_i pl
   obtain ⟨a, p, q⟩ := pl
   obtain ⟨h1, h2⟩ := BR_no h
   obtain ⟨m, c, h3, h4, h5⟩ := cellW_of (n := n) (e := e) h2
   obtain ⟨rfl, h6⟩ := BR_yes h5
   exact .cons (by rw [stOf_get (hn x List.mem_cons_self), ht]) h3 h4 (by rw [← memB_eq]; exact h1) (pinsW_of (fun y hy => hn y (List.mem_cons_of_mem _ hy)) h6)
  ·exact h.elim
def onlyW (ks : List Nat) : Rs → (Rs → Prop) → Prop
 | [], k => k []
 | (a, ⟨m, row⟩) :: l, k => BR (memB a ks) (onlyW ks l fun l => k ((a, ⟨m, row⟩) :: l)) (onlyW ks l k)
theorem onlyW_of {ks : List Nat} : ∀ {rs : Rs} {k : Rs → Prop}, onlyW ks rs k → k (rs.filter fun x => ks.contains x.1)
 | [], k, h => h
 | (a, ⟨m, row⟩) :: l, k, h => by
  rcases BR_iff.1 h with ⟨h1, h2⟩ | ⟨h1, h2⟩
  ·have h1' : ks.contains a = true := by rw [← memB_eq]; exact h1
   have := onlyW_of (rs := l) h2
   rw [List.filter_cons, if_pos h1']
   exact this
  ·have h1' : ks.contains a = false := by rw [← memB_eq]; exact h1
   have := onlyW_of (rs := l) h2
   rw [List.filter_cons, if_neg (by rw [h1']; decide)]
   exact this
section
variable {P : Program} {w0 : World} {g0 : Gh} {st : St}
theorem copy_value {a : Act} {w : World} {o : Oper} {args : Array Operand} {tys : Array TypeId} (ho : o.op = .call { callee := .builtin .copy, args := args, argTypes := tys }) {n : Next} {w' : World} (h : (execOp a.eval o).run P w = .ok n w') : ∃ v, n = .value v := by
 simp [execOp, ho, resolve, invoke, builtin] at h
 generalize Sem.run P (Builtin.copy_ tys o.type (Array.map a.eval args)) w = r at h
 cases r with
 | ok v w1 =>
  simp [Result.andThen] at h
  exact ⟨v, h.1.symm⟩
 | halt x w1 => simp [Result.andThen] at h
theorem TA.opB' {ops : Array Oper} {ws bs s : List Nat} {i : Nat} {l u : Ord} {Q : St → Prop} {o : Oper} {tl : List Oper} (ks : List Nat) (hin : ws.contains i = true ∧ bs.contains i = true) (hd0 : ops.toList.drop i = o :: tl) (hg : yes ops st o)
  (hv : ∀ {a : Act} {w : World} {n : Next} {w' : World}, (execOp a.eval o).run P w = .ok n w' → (∃ v, n = .value v) ∨ n = .skip)
  (hps : PinsOk st ks s)
  (hf : ∀ w0 g0, OpT P w0 g0 o (st.only ks) (fun _ => True))
  (h : ∀ K : St → Prop, (∀ st', TT P w0 g0 ops ws bs s l st' Q → K st') → OpT P w0 g0 o st K) (hu : TA P w0 g0 ops ws bs s u st Q) : TA P w0 g0 ops ws bs s (.alt i l u) st Q := TA.alt (fun Q' K hK a w g hR => by
 unfold stepV
 rw [if_pos hin.1, if_pos hin.2]
 unfold sOp
 simp only [at_drop hd0, yes_of hg hR, if_true]
 have hA := h _ (fun _ h => h) a w g hR K (fun _ _ _ => False) fun st' a' w' g' hq hR' => hK st' a' w' g' hq hR'
 have hB := hf w (g.frame ks w.heap.size) a w _ (hR.frame ks) (fun _ w' => ∃ g', Keeps w (g.frame ks w.heap.size) w' g') (fun _ _ _ => False) fun st' a' w' g' _ hR' => ⟨g', hR'.ks⟩
 unfold Oper.wp at hA hB
 generalize hr : (execOp a.eval o).run P w = r at hA hB
 cases r with
 | halt x w' => cases x <;> exact hA.elim
 | ok n w' =>
  rcases hv hr with ⟨v, rfl⟩ | rfl
  all_goals
   have hA' := hA
   obtain ⟨g', hKp⟩ : ∃ g', Keeps w (g.frame ks w.heap.size) w' g' := hB
   refine ⟨⟨hKp.size, fun x hx A hAd hlt => ?_⟩, hA'⟩
   obtain ⟨pl, c, hps, hpc, hpm, hpk⟩ := hps.get x hx
   have h2 := hR.tm x _ hps
   rw [hAd] at h2
   cases h2 with
   | one _ _ h2 =>
    cases h2 with
    | ptr _ =>
     have h3 := ((hR.cellAt hpc).2.2.2 hpm).1
     refine (hKp.block _ hlt (.inl ?_)).1
     show (g.frame ks w.heap.size).o (g.ad pl.k pl.p).1 = .ro
     have h4 : (tagOf pl.k pl.p).root? = some pl.k := by unfold tagOf; split <;> rfl
     simp only [Gh.frame, h3, h4, hpk, Bool.false_eq_true, if_false]
     exact if_pos hlt) hu
end
section
variable {P : Program} {w0 : World} {g0 : Gh} {st : St}
theorem OpM.of' {o : Oper} {Q : St → Prop} (hv : ∀ {a : Act} {w : World} {n : Next} {w' : World}, (execOp a.eval o).run P w = .ok n w' → ∃ v, n = .value v) (hf : ∀ w0 g0, OpT P w0 g0 o (st.only []) (fun _ => True)) (h : OpT P w0 g0 o st Q) : OpM P w0 g0 o st Q := fun a w g hR K hK => by
 have hA := h a w g hR K (fun _ _ _ => False) hK
 have hB := hf w (g.frame [] w.heap.size) a w _ (hR.frame []) (fun _ w' => ∃ g', Keeps w (g.frame [] w.heap.size) w' g') (fun _ _ _ => False) fun st' a' w' g' _ hR' => ⟨g', hR'.ks⟩
 unfold Oper.wp at hA hB
 generalize hr : (execOp a.eval o).run P w = r at hA hB
 cases r with
 | halt x w' => cases x <;> exact hA.elim
 | ok n w' =>
  obtain ⟨v, rfl⟩ := hv hr
  obtain ⟨g', hK'⟩ : ∃ g', Keeps w (g.frame [] w.heap.size) w' g' := hB
  refine ⟨⟨hK'.os, hK'.tape, hK'.output, hK'.size, fun b hb => (hK'.block b hb (.inl ?_)).1⟩, hA⟩
  simp only [Gh.frame]
  split
  ·simp [hb]
  ·exact if_pos hb
theorem sem_value {m : Sem Value} {w : World} {n : Next} {w' : World} (h : (m >>= fun x => pure (Next.value x) : Sem Next).run P w = .ok n w') : ∃ v, n = .value v := by
 simp only [Sem.run_bind] at h
 generalize Sem.run P m w = r at h
 cases r with
 | ok v w1 =>
  simp [Result.andThen] at h
  exact ⟨v, h.1.symm⟩
 | halt x w1 => simp [Result.andThen] at h
theorem store_skip {a : Act} {w : World} {o : Oper} {t : TypeId} {x y : Operand} (ho : o.op = .store t x y) {n : Next} {w' : World} (h : (execOp a.eval o).run P w = .ok n w') : n = .skip := by
 simp [execOp, ho] at h
 generalize Sem.run P (Instr.storeAt t (a.eval x) (a.eval y)) w = r at h
 cases r with
 | ok v w1 =>
  simp [Result.andThen] at h
  exact h.1.symm
 | halt x w1 => simp [Result.andThen] at h
def makes : Op → Bool
 | .alloc _ => true
 | .box _ _ => true
 | .makeSlice _ _ _ => true
 | .build _ _ => true
 | _ => false
theorem makes_value {a : Act} {w : World} {o : Oper} (ho : makes o.op = true) {n : Next} {w' : World} (h : (execOp a.eval o).run P w = .ok n w') : ∃ v, n = .value v := by
 obtain ⟨dst, op, ty, pos, af, gd⟩ := o
 simp only at ho
 unfold makes at ho
 split at ho
 ·exact sem_value h
 ·exact sem_value h
 ·exact sem_value h
 ·exact sem_value h
 ·cases ho
end
def Ord.isA : Ord → Bool
 | .alt _ _ _ => true
 | .stop => true
 | _ => false
def Ord.isAlt : Ord → Bool
 | .alt _ _ _ => true
 | _ => false
def tQuiet (P : Program) (n : Nat) (ws s : List Nat) (i b : Nat) (o : Oper) (e : List En) (rs : Rs) (K : Kn) : Prop := BR (memB i ws) False (match b with
 | 0 => valW P n e rs o.op fun t => putW o.dst t e rs K
 | _ => valSW P n e rs s o.op fun t => putW o.dst t e rs K)
def rootsOf (n : Nat) (e : List En) (x y : Operand) (k : List Nat → Prop) : Prop := opdW n e 0 x fun a => (match a with
 | .one (.c (.ref pl)) => (match pl with | ⟨b, _, _⟩ => (match y with
  | .const _ => k [b]
  | _ => opdW n e 0 y fun c => (match c with
   | .one (.c (.ref pl)) => (match pl with | ⟨b2, _, _⟩ => k [b, b2])
   | .one (.cut pl _ _ _) => (match pl with | ⟨b2, _, _⟩ => k [b, b2])
   | _ => k [b])))
 | .one (.cut pl _ _ _) => (match pl with | ⟨b, _, _⟩ => opdW n e 0 y fun c => (match c with
   | .one (.c (.ref pl)) => (match pl with | ⟨b2, _, _⟩ => k [b, b2])
   | .one (.cut pl _ _ _) => (match pl with | ⟨b2, _, _⟩ => k [b, b2])
   | _ => k [b]))
 | _ => False)
theorem rootsOf_of {n : Nat} {e : List En} {x y : Operand} {k : List Nat → Prop} (h : rootsOf n e x y k) : ∃ ks, k ks := by
 unfold rootsOf at h
 obtain ⟨a, ha, h⟩ := opdW_of (rs := []) h
 clear ha
 split at h
 ·rename_i pl
  obtain ⟨b, p, q⟩ := pl
  simp only at h
  split at h
  ·exact ⟨_, h⟩
  ·obtain ⟨c, hc, h⟩ := opdW_of (rs := []) h
   clear hc
   split at h
   ·rename_i pl
    obtain ⟨b2, p, q⟩ := pl
    exact ⟨_, h⟩
   ·rename_i pl lo hi s
    obtain ⟨b2, p, q⟩ := pl
    exact ⟨_, h⟩
   ·exact ⟨_, h⟩
 ·rename_i pl z lo hi
  obtain ⟨b, p, q⟩ := pl
  simp only at h
  obtain ⟨c, hc, h⟩ := opdW_of (rs := []) h
  clear hc
  split at h
  ·rename_i pl
   obtain ⟨b2, p, q⟩ := pl
   exact ⟨_, h⟩
  ·rename_i pl lo hi s
   obtain ⟨b2, p, q⟩ := pl
   exact ⟨_, h⟩
  ·exact ⟨_, h⟩
 ·exact h.elim
def appS (P : Program) (w0 : World) (g0 : Gh) (n : Nat) (s : List Nat) (o : Oper) (e : List En) (rs : Rs) (K : Kn) : Prop := match o.op with
 | .call c => (match c with
  | ⟨cl, az, _⟩ => (match cl with
   | .builtin b => (match b with
    | .append => (match az with | ⟨az⟩ => (match az with
     | [x, y] => rootsOf n e x y fun ks => BR (ltAll n s) (pinsW e rs ks s ∧ (∀ w0 g0, onlyW ks rs fun rs => stepW false P w0 g0 n o e rs fun _ _ => True) ∧ stepW false P w0 g0 n o e rs K) False
     | _ => False))
    | .copy => (match az with | ⟨az⟩ => (match az with
     | [x, y] => rootsOf n e x y fun ks => BR (ltAll n s) (pinsW e rs ks s ∧ (∀ w0 g0, onlyW ks rs fun rs => stepW false P w0 g0 n o e rs fun _ _ => True) ∧ stepW false P w0 g0 n o e rs K) False
     | _ => False))
    | _ => False)
   | _ => False))
 | .store _ _ _ => (match s with
  | [] => (∀ w0 g0, stepW false P w0 g0 n o e rs fun _ _ => True) ∧ stepW false P w0 g0 n o e rs K
  | _ => False)
 | _ => False
def tAlt (P : Program) (w0 : World) (g0 : Gh) (n : Nat) (ws bs s : List Nat) (i : Nat) (o : Oper) (e : List En) (rs : Rs) (K : Kn) : Prop := BR (memB i ws) (BR (memB i bs) (appS P w0 g0 n s o e rs K) (stepW false P w0 g0 n o e rs K)) (BR (makes o.op) ((∀ w1 g1, stepW false P w1 g1 n o e [] fun _ _ => True) ∧ stepW false P w0 g0 n o e rs K) (stepW true P w0 g0 n o e rs K))
def wT (P : Program) (w0 : World) (g0 : Gh) (n : Nat) (ops : List Oper) (ws bs s : List Nat) (t : Ord) : List En → Rs → Kn → Prop :=
 @Ord.rec (fun _ => List En → Rs → Kn → Prop)
  (fun e rs K => K e rs)
  (fun i b t ih e rs K => BR t.isA False (nthW ops i fun o => guardW n ops o.guard e (fun e => tQuiet P n ws s i b o e rs fun e rs => ih e rs K) (fun _ => False)))
  (fun t ih e rs K => BR t.isAlt (ih e rs K) False)
  (fun i t u iht ihu e rs K => BR (t.isA || !u.isA) False ((nthW ops i fun o => guardW n ops o.guard e (fun e => tAlt P w0 g0 n ws bs s i o e rs fun e rs => iht e rs K) (fun _ => False)) ∧ ihu e rs K))
  (fun _ _ _ => True) t
theorem wT_of {P : Program} {w0 : World} {g0 : Gh} {n : Nat} {ops : Array Oper} {ws bs s : List Nat} : ∀ {t : Ord} {e : List En} {rs : Rs} {K : Kn}, wT P w0 g0 n ops.toList ws bs s t e rs K →
  (t.isA = false → TT P w0 g0 ops ws bs s t (stOf n e rs) (Lg n K)) ∧ (t.isA = true → TA P w0 g0 ops ws bs s t (stOf n e rs) (Lg n K))
 | .done, e, rs, K, h => ⟨fun _ => .nil (.mk h), fun h => Bool.noConfusion h⟩
 | .stop, e, rs, K, h => ⟨fun h => Bool.noConfusion h, fun _ => TA.stop⟩
 | .fork t, e, rs, K, h => by
   refine ⟨fun _ => ?_, fun h => Bool.noConfusion h⟩
   have h : BR t.isAlt (wT P w0 g0 n ops.toList ws bs s t e rs K) False := h
   obtain ⟨h1, h2⟩ := BR_yes h
   cases t with
   | alt i t u => exact .fork ((wT_of h2).2 rfl) (by simp [Ord.alts])
   | _ => cases h1
 | .quiet i b t, e, rs, K, h => by
   refine ⟨fun _ => ?_, fun h => Bool.noConfusion h⟩
   have h : BR t.isA False (nthW ops.toList i fun o => guardW n ops.toList o.guard e (fun e => tQuiet P n ws s i b o e rs fun e rs => wT P w0 g0 n ops.toList ws bs s t e rs K) (fun _ => False)) := h
   obtain ⟨h1, h2⟩ := BR_no h
   obtain ⟨o, h0, h3⟩ := nthW_of h2
   have hd0 := drop_of_get h0
   obtain ⟨e', he, h4⟩ := guardW_of (rs := rs) h3
   rw [← he]
   rcases h4 with ⟨h5, h6⟩ | ⟨_, h6⟩
   ·unfold tQuiet at h6
    obtain ⟨h7, h8⟩ := BR_no h6
    have h7' : ws.contains i = false := by rw [← memB_eq]; exact h7
    cases b with
    | zero =>
     obtain ⟨t', h9, h10⟩ := valW_of (w0 := w0) (g0 := g0) h8
     obtain ⟨e2, rs2, hs, hk⟩ := putW_of (n := n) h10
     exact .valE h7' hd0 h5 h9 hs ((wT_of hk).1 h1)
    | succ b =>
     obtain ⟨t', h9, h10⟩ := valSW_of (w0 := w0) (g0 := g0) h8
     obtain ⟨e2, rs2, hs, hk⟩ := putW_of (n := n) h10
     exact .valS h7' hd0 h5 h9 hs ((wT_of hk).1 h1)
   ·exact h6.elim
 | .alt i t u, e, rs, K, h => by
   refine ⟨fun h => Bool.noConfusion h, fun _ => ?_⟩
   have h : BR (t.isA || !u.isA) False ((nthW ops.toList i fun o => guardW n ops.toList o.guard e (fun e => tAlt P w0 g0 n ws bs s i o e rs fun e rs => wT P w0 g0 n ops.toList ws bs s t e rs K) (fun _ => False)) ∧ wT P w0 g0 n ops.toList ws bs s u e rs K) := h
   obtain ⟨h1, h2, hu⟩ := BR_no h
   simp only [Bool.or_eq_false_iff, Bool.not_eq_false'] at h1
   have hu := (wT_of hu).2 h1.2
   obtain ⟨o, h0, h3⟩ := nthW_of h2
   have hd0 := drop_of_get h0
   obtain ⟨e', he, h4⟩ := guardW_of (rs := rs) h3
   rw [← he] at hu ⊢
   rcases h4 with ⟨h5, h6⟩ | ⟨_, h6⟩
   ·unfold tAlt at h6
    rcases BR_iff.1 h6 with ⟨h7, h8⟩ | ⟨h7, h8⟩
    ·have h7' : ws.contains i = true := by rw [← memB_eq]; exact h7
     rcases BR_iff.1 h8 with ⟨h9, h10⟩ | ⟨h9, h10⟩
     ·have h9' : bs.contains i = true := by rw [← memB_eq]; exact h9
      unfold appS at h10
      split at h10
      ·rename_i c hc
       obtain ⟨cl, ⟨az⟩, ts⟩ := c
       simp only at h10
       split at h10
       ·split at h10
        ·split at h10
         ·obtain ⟨ks, h11⟩ := rootsOf_of h10
          obtain ⟨h12, h13, h14, h15⟩ := BR_yes h11
          have hk : OpT P w0 g0 o (stOf n e' rs) _ := stepW_of h15
          refine .opB' ks ⟨h7', h9'⟩ hd0 h5 (fun h => .inl (append_value hc h)) (pinsW_of (ltAll_of h12) h13) (fun w1 g1 => ?_) (fun K2 hK2 => hk.mono fun st ⟨e2, rs2, hs, hk⟩ => hK2 st (by subst hs; exact (wT_of hk).1 h1.1)) hu
          have h16 := onlyW_of (h14 w1 g1)
          have h17 : OpT P w1 g1 o (stOf n e' (rs.filter fun x => ks.contains x.1)) _ := stepW_of h16
          exact h17.mono fun _ _ => trivial
         ·exact h10.elim
        ·split at h10
         ·obtain ⟨ks, h11⟩ := rootsOf_of h10
          obtain ⟨h12, h13, h14, h15⟩ := BR_yes h11
          have hk : OpT P w0 g0 o (stOf n e' rs) _ := stepW_of h15
          refine .opB' ks ⟨h7', h9'⟩ hd0 h5 (fun h => .inl (copy_value hc h)) (pinsW_of (ltAll_of h12) h13) (fun w1 g1 => ?_) (fun K2 hK2 => hk.mono fun st ⟨e2, rs2, hs, hk⟩ => hK2 st (by subst hs; exact (wT_of hk).1 h1.1)) hu
          have h16 := onlyW_of (h14 w1 g1)
          have h17 : OpT P w1 g1 o (stOf n e' (rs.filter fun x => ks.contains x.1)) _ := stepW_of h16
          exact h17.mono fun _ _ => trivial
         ·exact h10.elim
        ·exact h10.elim
       ·exact h10.elim
      ·rename_i hst
       split at h10
       ·obtain ⟨h11, h12⟩ := h10
        have hk : OpT P w0 g0 o (stOf n e' rs) _ := stepW_of h12
        refine .opB' (rs.map Prod.fst) ⟨h7', h9'⟩ hd0 h5 (fun h => .inr (store_skip hst h)) .nil (fun w1 g1 => ?_) (fun K2 hK2 => hk.mono fun st ⟨e2, rs2, hs, hk⟩ => hK2 st (by subst hs; exact (wT_of hk).1 h1.1)) hu
        have h17 : OpT P w1 g1 o (stOf n e' rs) _ := stepW_of (h11 w1 g1)
        have h18 : (stOf n e' rs).only (rs.map Prod.fst) = stOf n e' rs := by
         simp only [St.only, stOf, St.mk.injEq, true_and]
         refine List.filter_eq_self.2 fun x hx => ?_
         exact List.contains_iff_mem.2 (List.mem_map.2 ⟨x, hx, rfl⟩)
        rw [h18]
        exact h17.mono fun _ _ => trivial
       ·exact h10.elim
      ·exact h10.elim
     ·have h9' : bs.contains i = false := by rw [← memB_eq]; exact h9
      have hk : OpT P w0 g0 o (stOf n e' rs) _ := stepW_of h10
      exact .opK ⟨h7', h9'⟩ hd0 h5 (fun K2 hK2 => hk.mono fun st ⟨e2, rs2, hs, hk⟩ => hK2 st (by subst hs; exact (wT_of hk).1 h1.1)) hu
    ·have h7' : ws.contains i = false := by rw [← memB_eq]; exact h7
     have hk : OpM P w0 g0 o (stOf n e' rs) (Lg n fun e rs => wT P w0 g0 n ops.toList ws bs s t e rs K) := by
      rcases BR_iff.1 h8 with ⟨h9, h10, h11⟩ | ⟨_, h9⟩
      ·have h12 : OpT P w0 g0 o (stOf n e' rs) _ := stepW_of h11
       refine OpM.of' (makes_value h9) (fun w1 g1 => ?_) h12
       have h13 : OpT P w1 g1 o (stOf n e' []) _ := stepW_of (h10 w1 g1)
       have h14 : (stOf n e' rs).only [] = stOf n e' [] := by simp [St.only, stOf]
       rw [h14]
       exact h13.mono fun _ _ => trivial
      ·exact stepW_of (m := true) h9
     exact .opM h7' hd0 h5 (fun K2 hK2 => hk.mono fun st ⟨e2, rs2, hs, hk⟩ => hK2 st (by subst hs; exact (wT_of hk).1 h1.1)) hu
   ·exact h6.elim
theorem regT {P : Program} {w0 : World} {g0 : Gh} {n : Nat} {ops : Array Oper} {e : List En} {rs : Rs} {K : Kx} (ws bs s : List Nat) (t : Ord) (h : wT P w0 g0 n ops.toList ws bs s t e rs (K .normal)) (ht : t.isA = false := by exact rfl) (hB : (Region.noSelect ops && t.ok ops ws bs s ops.size (Array.replicate ops.size false)) = true := by decide +kernel) (hm : P.follows .mixedOrders = true := by exact rfl) :
  RegW P w0 g0 n ops e rs K := ⟨fun i => TC.regionT ws bs s t hm hB (by
 have h1 := (wT_of h).1 ht
 exact fun fuel listed hs hc he a w g hR Q' hQ => h1 fuel listed hs hc he a w g hR Q' fun st' a' w' g' ⟨e', rs', hs, hk⟩ hR' => hQ st' a' w' g' ⟨e', rs', hs, hk⟩ hR')⟩
theorem regTJ {P : Program} {w0 : World} {g0 : Gh} {n : Nat} {ops : Array Oper} {e : List En} {rs : Rs} {K : Kx} (ws bs s : List Nat) (t : Ord) (js vs xs : List Nat) (mods : List En) (rts : Rs)
  (h : keepE n e js fun ke => exceptW xs rs fun kr => wT P w0 g0 n ops.toList ws bs s t e rs (fun e' rs' => HeadA e' rs' vs (mods ++ ke) (rts ++ kr)) ∧ appW mods ke fun E => appW rts kr fun R => K .normal E R)
  (ht : t.isA = false := by exact rfl) (hB : (Region.noSelect ops && t.ok ops ws bs s ops.size (Array.replicate ops.size false)) = true := by decide +kernel) (hm : P.follows .mixedOrders = true := by exact rfl) : RegW P w0 g0 n ops e rs K := by
 obtain ⟨ke, h⟩ := keepE_of h
 obtain ⟨kr, h1, h2⟩ := exceptW_of h
 have h2 := appW_of (appW_of h2)
 refine ⟨fun i => TC.regionT ws bs s t hm hB ?_⟩
 have h3 := (wT_of h1).1 ht
 refine fun fuel listed hs hc he a w g hR Q' hQ => h3 fuel listed hs hc he a w g hR Q' fun st' a' w' g' ⟨e', rs', hs, hk⟩ hR' => ?_
 subst hs
 obtain ⟨g2, hR2⟩ := hk.can hR'
 exact hQ _ a' w' g2 ⟨_, _, rfl, h2⟩ hR2
end Go.Proofs.Ytcmoifejjodgcaa.T

namespace Go.Proofs.Ytcmoifejjodgcaa.T
open Go
set_option linter.unusedVariables false
set_option linter.unusedSimpArgs false
set_option maxRecDepth 100000
set_option maxHeartbeats 8000000
def trapBy (x : VGuest) (traps want : Int) : VGuest × Bool :=
 if want = 6 then (stopped x (callExit (insAt x.Prog x.Pc).X), false) else if want = 5 ∧ hasTrap traps 1 = true then (stopped x (outExit (insAt x.Prog x.Pc).X), false)
 else if want = 7 ∧ hasTrap traps 2 = true then (stopped x haltExit, false) else if want = 7 then (held x, true) else (moved x, true)
theorem impl_copyGuests_f (l : List VGuest) [Q (SmGuestS l)] : Fun Try.prog 45 [L 15 (l.map dGuest)] (RL 15 (l.map dGuest)) := by
 refine Fun.w 20 Try.func45 fun w g0 hM => ?_
 have hl0 := hM.1.map
 refine len ?_
 refine loopA [2, 3, 7, 8] [3] [3] (fun (i : Nat) => [.set 9 (I i)]) (fun (i : Nat) => [(3, ⟨false, [.own (.sl 15 ((l.take i).map dGuest))]⟩)]) (fun (i : Nat) => i ≤ l.length) (fun (i : Nat) => l.length - i) (0) (Nat.zero_le _) ?_
 refine ⟨hda, fun i hyp N1 hN1 => ?_⟩
 have hyp : i ≤ l.length := hyp
 refine cnd (fun hb => ?_) (fun hb => ?_)
 ·first | refine ixm (by assumption) ?_ | refine bnd ?_ | refine bndi ?_ | refine ixkq (fun y11 hy11 qy11 ly11 => ?_) | refine ixiq (fun y11 hy11 qy11 ly11 => ?_)
  first | refine ixs ?_ | refine ixo (by assumption) ?_ | refine ixoq (fun z1 hz1 qz1 lz1 => ?_) | skip
  refine callG (impl_copyGuest_f _).k ?_
  first | refine appOq ?_ | refine appO ?_
  refine rng ?_
  refine hN1 _ _ _ ?_
  refine nxa (i + 1) (by omega)
 ·refine hN1 _ _ _ ?_
  exact (by rw [List.take_of_length_le (by omega)]; rfl)
theorem impl_copyBare_f (b : VBare) [Q (SmBare b)] : Fun Try.prog 46 [A (rBare b)] (RG [.a (rBare (b))]) := by
 refine Fun.w 15 Try.func46 fun w g0 _ => ?_
 refine regU [12] [(0, 0), (1, 0), (3, 0), (4, 0), (6, 0), (7, 0), (9, 0), (10, 0), (2, 1), (5, 1), (8, 1), (11, 0), (12, 1)] ?_
 refine callL (impl_copyMem_f _).k ?_
 refine callL (impl_copyGuests_f _).k ?_
 refine callL (impl_copyInts_f _).k ?_
 exact rfl
end Go.Proofs.Ytcmoifejjodgcaa.T

