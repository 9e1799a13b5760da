
import Derived.Test.YtcmoifejjodgcaaRhp
namespace Go.Proofs.Ytcmoifejjodgcaa.T
open Go
set_option linter.unusedVariables false
set_option linter.unusedSimpArgs false
abbrev Kx := Exit → List En → Rs → Prop
def Lf (n : Nat) (K : Kx) : Exit → St → Prop := fun ex st => ∃ e rs, st = stOf n e rs ∧ K ex e rs
theorem Lf.mk {n : Nat} {K : Kx} {ex : Exit} {e : List En} {rs : Rs} (h : K ex e rs) : Lf n K ex (stOf n e rs) := ⟨e, rs, rfl, h⟩
structure RegW (P : Program) (w0 : World) (g0 : Gh) (n : Nat) (ops : Array Oper) (e : List En) (rs : Rs) (K : Kx) : Prop where
 h : ∀ i, TC P w0 g0 (.region i ops true) (stOf n e rs) (Lf n K)
structure LoopW (P : Program) (w0 : World) (g0 : Gh) (n : Nat) (c : Code) (e : List En) (rs : Rs) (K : Kx) : Prop where
 h : TC P w0 g0 (.loop c) (stOf n e rs) (Lf n K)
theorem regQ {P : Program} {w0 : World} {g0 : Gh} {n : Nat} {ops : Array Oper} {e : List En} {rs : Rs} {K : Kx} (h : wQ P w0 g0 n ops.toList ops.toList e rs (K .normal)) (hB : Region.lexB .any ops = true := by decide +kernel) (hm : P.follows .mixedOrders = true := by exact rfl) :
  RegW P w0 g0 n ops e rs K := ⟨fun i => TC.regionQ hm hB (by
 have h1 := wQ_of h
 exact fun a w g hR Q' hQ => h1 a w g hR Q' fun st' a' ⟨e', rs', hs, hk⟩ hR' => hQ st' a' ⟨e', rs', hs, hk⟩ hR')⟩
theorem regU {P : Program} {w0 : World} {g0 : Gh} {n : Nat} {ops : Array Oper} {e : List En} {rs : Rs} {K : Kx} (ws : List Nat) (l : List (Nat × Nat)) (h : wU P w0 g0 n ops.toList ws l e rs (K .normal)) (hB : eagerVB ops ws [] [] l = true := by decide +kernel) (hm : P.follows .mixedOrders = true := by exact rfl) :
  RegW P w0 g0 n ops e rs K := ⟨fun i => TC.regionV ws [] [] l hm hB (by
 have h1 := wU_of h
 exact fun listed hs hc he a w g hR Q' hQ => h1 listed hs hc he a w g hR Q' fun st' a' w' g' ⟨e', rs', hs, hk⟩ hR' => hQ st' a' w' g' ⟨e', rs', hs, hk⟩ hR')⟩
def seqK (b : List En → Rs → Kx → Prop) (K : Kx) : Kx := fun ex e rs => match ex with
 | .normal => b e rs K
 | ex => K ex e rs
def blockK (i : Nat) (K : Kx) : Kx := fun ex e rs => match ex with
 | .exit j => BR (Nat.beq j i) (K .normal e rs) (K (.exit j) e rs)
 | ex => K ex e rs
def condC (x : Operand) (v : Bool) (f : List En → Rs → Kx → Prop) (e : List En) (rs : Rs) (K : Kx) : Prop := match x with
 | .tmp d => f (.set d (B v) :: e) rs K
 | _ => f e rs K
def wC (P : Program) (w0 : World) (g0 : Gh) (n : Nat) (c : Code) : List En → Rs → Kx → Prop :=
 @Code.rec (fun _ => List En → Rs → Kx → Prop)
  (fun e rs K => K .normal e rs)
  (fun _ ops dr e rs K => BR dr (RegW P w0 g0 n ops e rs K) (wL P w0 g0 n ops.toList ops.toList e rs (K .normal)))
  (fun _ _ a b e rs K => a e rs (seqK b K))
  (fun x _ _ a b e rs K => opdW n e 0 x fun t => boolW t fun c => BR c (condC x true a e rs K) (condC x false b e rs K))
  (fun i _ c e rs K => c e rs (blockK i K))
  (fun c _ e rs K => LoopW P w0 g0 n c e rs K)
  (fun _ _ _ _ _ _ _ _ _ => False)
  (fun i e rs K => K (.exit i) e rs)
  (fun _ _ _ _ _ => False)
  (fun _ _ _ _ => False)
  (fun _ _ _ _ => False)
  (fun e rs K => K .ret e rs)
  (fun _ _ _ _ => False) c
theorem opd_known {n : Nat} {e : List En} {rs : Rs} {d : Nat} {b : Bool} (h : T.opd 0 (stOf n e rs) (.tmp d) = some (B b)) : stOf n (.set d (B b) :: e) rs = stOf n e rs := stOf_same h
theorem wC_of {P : Program} {w0 : World} {g0 : Gh} {n : Nat} : ∀ {c : Code} {e : List En} {rs : Rs} {K : Kx}, wC P w0 g0 n c e rs K → TC P w0 g0 c (stOf n e rs) (Lf n K)
 | .skip, e, rs, K, h => .skip (.mk h)
 | .exit i, e, rs, K, h => .exit (.mk h)
 | .ret, e, rs, K, h => .ret (.mk h)
 | .seq a b, e, rs, K, h => by
  have h : wC P w0 g0 n a e rs (seqK (wC P w0 g0 n b) K) := h
  refine .seq ((wC_of (c := a) h).mono fun ex st ⟨e', rs', hs, hk⟩ => ?_)
  subst hs
  cases ex with
  | normal => exact wC_of (c := b) hk
  | _ => exact .mk hk
 | .block i c, e, rs, K, h => by
  have h : wC P w0 g0 n c e rs (blockK i K) := h
  refine .block ((wC_of (c := c) h).mono fun ex st ⟨e', rs', hs, hk⟩ => ?_)
  subst hs
  cases ex with
  | exit j =>
   simp only [Blk]
   have hk : BR (Nat.beq j i) (K .normal e' rs') (K (.exit j) e' rs') := hk
   rcases BR_iff.1 hk with ⟨h1, h2⟩ | ⟨h1, h2⟩
   ·rw [if_pos (Nat.eq_of_beq_eq_true h1)]; exact .mk h2
   ·rw [if_neg (fun e => by subst e; simp at h1)]; exact .mk h2
  | _ => exact .mk hk
 | .cond x a b, e, rs, K, h => by
  have h : opdW n e 0 x fun t => boolW t fun c => BR c (condC x true (wC P w0 g0 n a) e rs K) (condC x false (wC P w0 g0 n b) e rs K) := h
  obtain ⟨t, h1, h2⟩ := opdW_of (rs := rs) h
  obtain ⟨c, rfl, h3⟩ := boolW_of h2
  rcases BR_iff.1 h3 with ⟨rfl, h4⟩ | ⟨rfl, h4⟩
  ·refine .cond h1 (fun _ => ?_) (fun hc => by cases hc)
   unfold condC at h4
   split at h4
   ·rw [← opd_known h1]; exact wC_of (c := a) h4
   ·exact wC_of (c := a) h4
  ·refine .cond h1 (fun hc => by cases hc) (fun _ => ?_)
   unfold condC at h4
   split at h4
   ·rw [← opd_known h1]; exact wC_of (c := b) h4
   ·exact wC_of (c := b) h4
 | .region i ops dr, e, rs, K, h => by
  have h : BR dr (RegW P w0 g0 n ops e rs K) (wL P w0 g0 n ops.toList ops.toList e rs (K .normal)) := h
  rcases BR_iff.1 h with ⟨rfl, h1⟩ | ⟨rfl, h1⟩
  ·exact h1.h i
  ·refine .region ?_
   have h2 := wL_of h1
   exact fun a w g hR Q' hQ => h2 a w g hR Q' fun st' a' w' g' ⟨e', rs', hs, hk⟩ hR' => hQ st' a' w' g' ⟨e', rs', hs, hk⟩ hR'
 | .loop c, e, rs, K, h => LoopW.h h
 | .rangeFunc .., _, _, _, h => False.elim h
 | .scope .., _, _, _, h => False.elim h
 | .label .., _, _, _, h => False.elim h
 | .goto .., _, _, _, h => False.elim h
 | .refuse .., _, _, _, h => False.elim h
def keepE (n : Nat) (e : List En) : List Nat → (List En → Prop) → Prop
 | [], k => k []
 | j :: l, k => getW n e j fun t => keepE n e l fun l => k (.set j t :: l)
theorem keepE_of {n : Nat} {e : List En} : ∀ {l : List Nat} {k : List En → Prop}, keepE n e l k → ∃ ke, k ke
 | [], k, h => ⟨_, h⟩
 | j :: l, k, h => by
  obtain ⟨t, _, h2⟩ := getW_of (rs := []) h
  exact (keepE_of (l := l) h2).elim fun ke h => ⟨_, h⟩
def keepR (rs : Rs) : List Nat → (Rs → Prop) → Prop
 | [], k => k []
 | a :: l, k => rootW rs a fun m row => keepR rs l fun l => k ((a, ⟨m, row⟩) :: l)
theorem keepR_of {rs : Rs} : ∀ {l : List Nat} {k : Rs → Prop}, keepR rs l k → ∃ kr, k kr
 | [], k, h => ⟨_, h⟩
 | a :: l, k, h => by
  obtain ⟨m, row, _, h2⟩ := rootW_of (n := 0) (e := []) h
  exact (keepR_of (l := l) h2).elim fun kr h => ⟨_, h⟩
def appW {α : Type} : List α → List α → (List α → Prop) → Prop
 | [], r, k => k r
 | x :: l, r, k => appW l r fun l => k (x :: l)
theorem appW_of {α : Type} {r : List α} : ∀ {l : List α} {k : List α → Prop}, appW l r k → k (l ++ r)
 | [], k, h => h
 | x :: l, k, h => appW_of (l := l) h
def slotsW (e : List En) : List En → Prop → Prop
 | [], k => k
 | .set j t :: l, k => (lookW e j fun t' => forceS t' fun t' => t' = t) ∧ slotsW e l k
 | .app _ :: _, _ => False
def rootsW (rs : Rs) : Rs → Prop
 | [] => True
 | (a, r) :: l => (rootW rs a fun m row => (⟨m, row⟩ : Rt) = r) ∧ rootsW rs l
def namesW (e : List En) (rs : Rs) : List (Nat × Nat) → (List En → Rs → Prop) → Prop
 | [], k => k e rs
 | (a, b) :: l, k => BR (Nat.blt b 1000000) (normW b rs (nameR a b rs) fun rs => namesW (.app (nameS a b) :: e) rs l k) False
theorem slotsW_of {e : List En} : ∀ {l : List En} {k : Prop}, slotsW e l k → (∀ i, look l i = .one .dead ∨ look e i = look l i) ∧ k
 | [], k, h => ⟨fun i => .inl rfl, h⟩
 | .set j t :: l, k, h => by
  obtain ⟨h1, h2⟩ := h
  obtain ⟨h3, h4⟩ := slotsW_of (l := l) h2
  have h5 := forceS_iff.1 (lookW_of h1)
  refine ⟨fun i => ?_, h4⟩
  simp only [look]
  split
  ·rename_i hb
   rw [← Nat.eq_of_beq_eq_true hb]
   exact .inr h5
  ·exact h3 i
 | .app _ :: _, _, h => h.elim
theorem rootsW_of {n : Nat} {e : List En} {rs : Rs} : ∀ {l : Rs}, rootsW rs l → ∀ x ∈ l, (stOf n e rs).root x.1 = some x.2
 | [], _, x, hx => by cases hx
 | (a, r) :: l, h, x, hx => by
  rcases List.mem_cons.1 hx with rfl | hx
  ·obtain ⟨m, row, h1, h2⟩ := rootW_of (n := n) (e := e) h.1
   rw [← h2]; exact h1
  ·exact rootsW_of (l := l) h.2 x hx
theorem head_can {n : Nat} {e l : List En} {rs rs' : Rs} (h1 : ∀ i, look l i = .one .dead ∨ look e i = look l i) (h2 : ∀ x ∈ rs', (stOf n e rs).root x.1 = some x.2) : Can (stOf n e rs) (stOf n l rs') := by
 refine Can.less ⟨⟨by simp [stOf], fun i t hi => ?_⟩, fun k r hk => ?_⟩ (Can.refl _)
 ·by_cases hin : i < n
  ·rw [stOf_get hin] at hi ⊢
   simp only [Option.some.injEq] at hi ⊢
   rcases h1 i with h | h
   ·exact .inl (hi ▸ h)
   ·exact .inr (h.trans hi)
  ·simp [stOf, hin] at hi
 ·simp only [St.root, Option.map_eq_some_iff] at hk
  obtain ⟨x, hf, hx⟩ := hk
  have h3 := h2 x (List.mem_of_find?_eq_some hf)
  have h4 := List.find?_some hf
  simp only [beq_iff_eq] at h4
  rw [← h4, ← hx]
  exact h3
theorem name_eq {n : Nat} {e : List En} {rs : Rs} {a b : Nat} : (stOf n e rs).name a b = stOf n (.app (nameS a b) :: e) (nameR a b rs) := stOf_app
theorem namesW_of {n : Nat} : ∀ {l : List (Nat × Nat)} {e : List En} {rs : Rs} {k : List En → Rs → Prop}, namesW e rs l k → ∃ e' rs', k e' rs' ∧ ∀ st2, Can (stOf n e' rs') st2 → Can (stOf n e rs) st2
 | [], e, rs, k, h => ⟨e, rs, h, fun _ h => h⟩
 | (a, b) :: l, e, rs, k, h => by
  obtain ⟨h1, h2⟩ := BR_yes h
  obtain ⟨e', rs', h3, h4⟩ := namesW_of (n := n) (l := l) (normW_of h2)
  exact ⟨e', rs', h3, fun st2 hc => Can.name a b name_eq (h4 st2 hc) (Nat.le_of_ble_eq_true h1)⟩
def HeadW (e : List En) (rs : Rs) (nm : List (Nat × Nat)) (E : List En) (R : Rs) : Prop := namesW e rs nm fun e rs => slotsW e E (rootsW rs R)
theorem HeadW.can {n : Nat} {e E : List En} {rs R : Rs} {nm : List (Nat × Nat)} (h : HeadW e rs nm E R) : Can (stOf n e rs) (stOf n E R) := by
 obtain ⟨e', rs', h1, h2⟩ := namesW_of (n := n) h
 obtain ⟨h3, h4⟩ := slotsW_of h1
 exact h2 _ (head_can h3 (rootsW_of h4))
inductive NextW {α : Type} (inv : α → Prop) (v : α → Nat) (x : α) (E : α → List En) (R : α → Rs) (e : List En) (rs : Rs) : Prop
 | mk (nm : List (Nat × Nat)) (y : α) (h1 : v y < v x) (h2 : inv y) (h3 : HeadW e rs nm (E y) (R y))
def RoundW (N : List En → Rs → Prop) (K : Kx) : Kx := fun ex e rs => match ex with
 | .normal => N e rs
 | ex => K ex e rs
theorem eqS {α : Type} {a b : α} (h : a = b) : a = b := h
theorem loopW {P : Program} {w0 : World} {g0 : Gh} {n : Nat} {c : Code} {e : List En} {rs : Rs} {K : Kx} {α : Type} (js ks : List Nat) (nm : List (Nat × Nat)) (mods : α → List En) (rts : α → Rs) (inv : α → Prop) (v : α → Nat) (x0 : α) (h0 : inv x0)
  (h : keepE n e js fun ke => keepR rs ks fun kr => HeadW e rs nm (mods x0 ++ ke) (rts x0 ++ kr) ∧
   ∀ x, inv x → appW (mods x) ke fun E => appW (rts x) kr fun R => ∀ N : Kx, (∀ ex e' rs', RoundW (NextW inv v x (fun y => mods y ++ ke) (fun y => rts y ++ kr)) K ex e' rs' → N ex e' rs') → wC P w0 g0 n c E R N) : LoopW P w0 g0 n c e rs K := ⟨by
 obtain ⟨ke, h⟩ := keepE_of h
 obtain ⟨kr, h1, h2⟩ := keepR_of h
 refine TC.loop (fun μ st => ∃ x, inv x ∧ μ = v x ∧ Can st (stOf n (mods x ++ ke) (rts x ++ kr))) (v x0) ⟨x0, h0, rfl, h1.can⟩ fun μ st ⟨x, hi, hv, hc⟩ => ?_
 refine TC.can hc ?_
 refine (wC_of (appW_of (appW_of (h2 x hi)) _ fun _ _ _ h => h)).mono fun ex st ⟨e', rs', hs, hk⟩ => ?_
 subst hs
 cases ex with
 | normal =>
  obtain ⟨nm, y, h3, h4, h5⟩ := hk
  exact ⟨v y, by rw [hv]; exact h3, y, h4, rfl, h5.can⟩
 | _ => exact .mk hk⟩
def resW (P : Program) (n : Nat) (e : List En) (rs : Rs) (r : ResultVar) (k : TV → Prop) : Prop := match r with
 | .tmp i => getW n e i fun t => (match t with | .one tv => k tv | _ => False)
 | .cell a ty => getW n e a fun t => (match t with
  | .one (.ptr pl) => (match pl with
   | ⟨b, p, q⟩ => (match aggT P ty with
    | some false => cellW rs b p q fun m c => BR m (valCW b p q c fun c => k (.c c)) False
    | some true => sizeW P ty fun s => cellsW rs b p q s fun m l => BR m (k (.agg l)) False
    | none => False))
  | _ => False)
theorem resW_of {P : Program} {n : Nat} {e : List En} {rs : Rs} {r : ResultVar} {k : TV → Prop} (h : resW P n e rs r k) : ∃ tv, resTV P (stOf n e rs) r = some tv ∧ k tv := by
 cases r with
 | tmp i =>
  obtain ⟨t, h1, h2⟩ := getW_of (rs := rs) h
  split at h2
  ·exact ⟨_, by simp [resTV, h1], h2⟩
  ·exact h2.elim
 | cell a ty =>
  obtain ⟨t, h1, h2⟩ := getW_of (rs := rs) h
  split at h2
  ·rename_i pl
   obtain ⟨b, p, q⟩ := pl
   simp only at h2
   split at h2
   ·rename_i ht
    obtain ⟨m, c, h3, h4, h5⟩ := cellW_of (n := n) (e := e) h2
    obtain ⟨rfl, h6⟩ := BR_yes h5
    exact ⟨_, by simp [resTV, h1, h4, ht, h3], valCW_of h6⟩
   ·rename_i ht
    obtain ⟨s, h3, h4⟩ := sizeW_of h2
    obtain ⟨l, h5, h6⟩ := cellsW_of (n := n) (e := e) h4
    obtain ⟨h7, h8⟩ := BR_yes h6
    exact ⟨_, by simp [resTV, h1, h7, ht, h3, h5], h8⟩
   ·exact h2.elim
  ·exact h2.elim
def ressW (P : Program) (n : Nat) (e : List En) (rs : Rs) : List ResultVar → (List TV → Prop) → Prop
 | [], k => k []
 | r :: l, k => resW P n e rs r fun t => ressW P n e rs l fun l => k (t :: l)
theorem ressW_of {P : Program} {n : Nat} {e : List En} {rs : Rs} : ∀ {l : List ResultVar} {k : List TV → Prop}, ressW P n e rs l k → ∃ tvs, l.map (resTV P (stOf n e rs)) = tvs.map some ∧ k tvs
 | [], k, h => ⟨[], rfl, h⟩
 | r :: l, k, h => by
  obtain ⟨t, h1, h2⟩ := resW_of h
  obtain ⟨tvs, h3, h4⟩ := ressW_of (l := l) h2
  exact ⟨t :: tvs, by simp [h1, h3], h4⟩
def hasB (a q : Nat) : List (Nat × Nat) → Bool
 | [] => false
 | (b, r) :: l => (Nat.beq a b && Nat.beq q r) || hasB a q l
def nodupB : List (Nat × Nat) → Bool
 | [] => true
 | (a, q) :: l => !hasB a q l && nodupB l
theorem hasB_mem {a q : Nat} : ∀ {l : List (Nat × Nat)}, hasB a q l = false → (a, q) ∉ l
 | [], _ => by simp
 | (b, r) :: l, h => by
  simp only [hasB, Bool.or_eq_false_iff, Bool.and_eq_false_iff] at h
  simp only [List.mem_cons, Prod.mk.injEq, not_or, not_and]
  refine ⟨fun e1 e2 => ?_, hasB_mem h.2⟩
  subst e1; subst e2
  rcases h.1 with h | h <;> simp at h
theorem nodupB_of : ∀ {l : List (Nat × Nat)}, nodupB l = true → l.Nodup
 | [], _ => by simp
 | (a, q) :: l, h => by
  simp only [nodupB, Bool.and_eq_true, Bool.not_eq_true'] at h
  exact List.nodup_cons.2 ⟨hasB_mem h.1, nodupB_of h.2⟩
def contsW (rs : Rs) : List (Nat × Nat) → (List D → Prop) → Prop
 | [], k => k []
 | (a, q) :: l, k => cellW rs a [] q fun _ c => (match c with
  | .own d => contsW rs l fun ds => k (d :: ds)
  | _ => False)
theorem contsW_of {n : Nat} {e : List En} {rs : Rs} : ∀ {l : List (Nat × Nat)} {k : List D → Prop}, contsW rs l k → ∃ row, contents (stOf n e rs) l = some row ∧ k row
 | [], k, h => ⟨[], rfl, h⟩
 | (a, q) :: l, k, h => by
  obtain ⟨_, c, h1, _, h2⟩ := cellW_of (n := n) (e := e) h
  split at h2
  ·obtain ⟨row, h3, h4⟩ := contsW_of (n := n) (e := e) (l := l) h2
   exact ⟨_, by simp [contents, h1, h3], h4⟩
  ·exact h2.elim
def endR (P : Program) (n : Nat) (rv : List ResultVar) (R : Res → Prop) (e : List En) (rs : Rs) : Prop :=
 ressW P n e rs rv fun tvs => BR (Nat.ble rv.length 4 && nodupB (tvs.flatMap refV)) (contsW rs (tvs.flatMap refV) fun row => R ⟨row, fun k => resT (tvs.map (gathV (tvs.flatMap refV) k))⟩) False
def endW (P : Program) (n : Nat) (rv : List ResultVar) (R : Res → Prop) : Kx := fun ex e rs => match ex with
 | .normal => endR P n rv R e rs
 | .ret => endR P n rv R e rs
 | _ => False
theorem endW_of {P : Program} {n : Nat} {fn : Func} {R : Res → Prop} {ex : Exit} {st : St} (h : Lf n (endW P n fn.results.toList R) ex st) : Ends P fn R ex st := by
 obtain ⟨e, rs, rfl, h⟩ := h
 have key : endR P n fn.results.toList R e rs → ∀ ex, (ex = .normal ∨ ex = .ret) → Ends P fn R ex (stOf n e rs) := fun h ex hex => by
  obtain ⟨tvs, h1, h2⟩ := ressW_of h
  obtain ⟨h3, h4⟩ := BR_yes h2
  simp only [Bool.and_eq_true] at h3
  obtain ⟨row, h5, h6⟩ := contsW_of (n := n) (e := e) h4
  exact ⟨hex, fn.results.toList, tvs, row, rfl, Nat.le_of_ble_eq_true h3.1, h1, nodupB_of h3.2, h5, h6⟩
 unfold endW at h
 split at h
 ·exact key h _ (.inl rfl)
 ·exact key h _ (.inr rfl)
 ·exact h.elim
def argsW : Nat → List TS → (List En → Prop) → Prop
 | _, [], k => k []
 | i, t :: l, k => argsW (i + 1) l fun l => k (.set i t :: l)
theorem argsW_of {m : Nat} : ∀ {l : List TS} {i : Nat} {k : List En → Prop}, argsW i l k → ∃ e, (∀ j, look e j = if i ≤ j then (l[j - i]?.getD (.one .dead)) else .one .dead) ∧ k e
 | [], i, k, h => ⟨[], fun j => by simp [look], h⟩
 | t :: l, i, k, h => by
  obtain ⟨e, h1, h2⟩ := argsW_of (m := m) (l := l) h
  refine ⟨_, fun j => ?_, h2⟩
  simp only [look]
  by_cases hj : i = j
  ·subst hj
   simp
  ·have hb : Nat.beq i j = false := Bool.eq_false_iff.2 fun e => hj (Nat.eq_of_beq_eq_true e)
   rw [hb, h1 j]
   simp only [Bool.false_eq_true, if_false]
   by_cases hlt : i ≤ j
   ·rw [if_pos (by omega), if_pos hlt, show j - i = (j - (i + 1)) + 1 by omega]
    rfl
   ·rw [if_neg (by omega), if_neg hlt]
theorem args_st {n : Nat} {pts : List TS} {e : List En} {rs : Rs} (hn : pts.length ≤ n) (h : ∀ j, look e j = if 0 ≤ j then (pts[j - 0]?.getD (.one .dead)) else .one .dead) : (⟨pts ++ List.replicate (n - pts.length) (.one .dead), rs⟩ : St) = stOf n e rs := by
 simp only [stOf, St.mk.injEq, and_true]
 apply List.ext_getElem?
 intro j
 simp only [Nat.zero_le, if_true, Nat.sub_zero] at h
 by_cases hj : j < n
 ·rw [List.getElem?_map, List.getElem?_range hj, Option.map_some, h j]
  by_cases hp : j < pts.length
  ·rw [List.getElem?_append_left hp, List.getElem?_eq_getElem hp]; rfl
  ·rw [List.getElem?_append_right (by omega), List.getElem?_replicate, if_pos (by omega), List.getElem?_eq_none (by omega)]; rfl
 ·rw [List.getElem?_eq_none (by simp; omega), List.getElem?_eq_none (by simp; omega)]
inductive AllMost : D → Prop
 | v (x : Value) : AllMost (.v x)
 | sl (sz : Nat) (ds : List D) (h : ds.length ≤ most) (h2 : ∀ d ∈ ds, ∀ c ∈ d.row, AllMost c) : AllMost (.sl sz ds)
theorem Ro.allMost {w : World} {o : Nat → Tag} {d : D} {v : Value} (h : Ro w o d v) : AllMost d := by
 induction h with
 | v x hx => exact .v x
 | nil sz ad c => exact .sl sz [] (Nat.zero_le _) fun d hd => by cases hd
 | sl sz ds b off n c us hn hm hnc ho hrow hcell hel ih =>
  refine .sl sz ds (by rw [hn]; exact hm) fun d hd c' hc => ?_
  obtain ⟨i, hi⟩ := List.getElem?_of_mem hd
  obtain ⟨j, hj⟩ := List.getElem?_of_mem hc
  exact ih i d hi j c' hj
def mostC : C → Prop
 | .ro d => AllMost d
 | _ => True
def mostCs : List C → Prop
 | [] => True
 | c :: l => mostC c ∧ mostCs l
def mostT : TS → Prop
 | .one (.c c) => mostC c
 | .one (.agg cs) => mostCs cs
 | _ => True
def mostS : List TS → Prop
 | [] => True
 | t :: l => mostT t ∧ mostS l
theorem AllMost.len {sz : Nat} {ds : List D} (h : AllMost (.sl sz ds)) : ds.length ≤ 9223372036854775807 := by cases h; assumption
theorem AllMost.map {α : Type} {f : α → D} {sz : Nat} {xs : List α} (h : AllMost (.sl sz (xs.map f))) : xs.length ≤ 9223372036854775807 := by simpa using h.len
theorem AllMost.el {α : Type} {f : α → D} {sz : Nat} {xs : List α} {y : α} (h : AllMost (.sl sz (xs.map f))) (hy : y ∈ xs) : ∀ c ∈ (f y).row, AllMost c := by
 cases h with
 | sl _ _ _ h2 => exact h2 _ (List.mem_map_of_mem hy)
theorem RepV.most {w : World} {g : Gh} {c : C} {u : Value} (h : RepV w g c u) : mostC c := by
 cases c with
 | ro d => exact Ro.allMost h
 | _ => trivial
theorem mostCs_of {cs : List C} (h : ∀ c ∈ cs, mostC c) : mostCs cs := by
 induction cs with
 | nil => trivial
 | cons c l ih => exact ⟨h c List.mem_cons_self, ih fun c hc => h c (List.mem_cons_of_mem _ hc)⟩
theorem RepS.most {w : World} {g : Gh} {t : TS} {u : Value} (h : RepS w g t u) : mostT t := by
 cases h with
 | one t u h =>
  cases h with
  | c c u h => exact RepV.most h
  | agg cs us hs h =>
   refine mostCs_of fun c hc => ?_
   obtain ⟨j, hj⟩ := List.getElem?_of_mem hc
   have hl := (List.getElem?_eq_some_iff.1 hj).1
   exact RepV.most (h j c us[j] hj (Array.getElem?_eq_getElem (by omega)))
  | _ => trivial
 | _ => trivial
theorem mostS_of {ts : List TS} (h : ∀ t ∈ ts, mostT t) : mostS ts := by
 induction ts with
 | nil => trivial
 | cons c l ih => exact ⟨h c List.mem_cons_self, ih fun c hc => h c (List.mem_cons_of_mem _ hc)⟩
theorem TC.mostS {P : Program} {w0 : World} {g0 : Gh} {c : Code} {pts r : List TS} {rs : Rs} {Q : Exit → St → Prop} (h : mostS pts → TC P w0 g0 c ⟨pts ++ r, rs⟩ Q) : TC P w0 g0 c ⟨pts ++ r, rs⟩ Q := fun a w g hR =>
 h (mostS_of fun t ht => by
  obtain ⟨i, hi⟩ := List.getElem?_of_mem ht
  exact (hR.tm i t (by rw [List.getElem?_append_left (List.getElem?_eq_some_iff.1 hi).1]; exact hi)).most) a w g hR
theorem Fun.w {P : Program} {f : FuncId} {fn : Func} {c : Code} {pts : List TS} {R : Res → Prop} (n : Nat) (hf : P.funcs[f]? = some fn) (h : ∀ w g0, mostS pts → argsW 0 pts fun e => wC P w g0 n c e [] (endW P n fn.results.toList R))
  (hb : fn.body = some c := by exact rfl) (hn : fn.ntmps = n := by exact rfl) (hl0 : Nat.ble pts.length n = true := by exact rfl) : Fun P f pts R := by
 have hl := Nat.le_of_ble_eq_true hl0
 subst hn
 refine Fun.of hf hb hl fun w g0 => TC.mostS fun hM => ?_
 obtain ⟨e, h1, h2⟩ := argsW_of (m := 0) (h w g0 hM)
 rw [args_st hl h1]
 exact (wC_of h2).mono fun ex st hl => endW_of hl
theorem FunW.w {P : Program} {f : FuncId} {fn : Func} {c : Code} {pts : List TS} {R : Res → Prop} {Cd : World → Prop} (hk : ∀ w w', Cd w → w.heap.size ≤ w'.heap.size → (∀ b, b < w.heap.size → w'.heap[b]? = w.heap[b]?) → Cd w') (n : Nat) (hf : P.funcs[f]? = some fn)
  (h : ∀ w g0, mostS pts → (∀ w', Kept w g0 w' → Cd w') → argsW 0 pts fun e => wC P w g0 n c e [] (endW P n fn.results.toList R))
  (hb : fn.body = some c := by exact rfl) (hn : fn.ntmps = n := by exact rfl) (hl0 : Nat.ble pts.length n = true := by exact rfl) : FunW Cd P f pts R := by
 have hl := Nat.le_of_ble_eq_true hl0
 subst hn
 refine FunW.of hk hf hb hl fun w g0 hC => TC.mostS fun hM => ?_
 obtain ⟨e, h1, h2⟩ := argsW_of (m := 0) (h w g0 hM hC)
 rw [args_st hl h1]
 exact (wC_of h2).mono fun ex st hl => endW_of hl
end Go.Proofs.Ytcmoifejjodgcaa.T

namespace Go.Proofs.Ytcmoifejjodgcaa.T
open Go
set_option linter.unusedVariables false
set_option linter.unusedSimpArgs false
theorem rng {a : Int} {k : Prop} (c : k) (lo : -9223372036854775808 ≤ a := by omega) (hi : a ≤ 9223372036854775807 := by omega) : RngW a k := ⟨lo, hi, c⟩
theorem nz {a : Int} {k : Prop} (c : k) (h : a ≠ 0 := by first | decide | omega) : NzW a k := ⟨h, c⟩
theorem len0 {ds : List D} {k : Nat → Prop} (c : k ds.length) : LenW ds k := ⟨_, rfl, c⟩
theorem lenq {ds : List D} {k : Nat → Prop} (n : Nat) (c : k n) (h : ds.length = n := by simp <;> omega) : LenW ds k := ⟨n, h, c⟩
theorem ixm {α : Type} {f : α → D} {xs : List α} {i : Int} {m : Nat} {y : α} {k : D → Prop} (hy : xs[m]? = some y) (c : k (f y)) (h0 : i = m := by omega) : IxW (xs.map f) i k := ⟨m, f y, h0, by rw [List.getElem?_map, hy]; rfl, c⟩
theorem ixd {ds : List D} {i : Int} {m : Nat} {d : D} {k : D → Prop} (hy : ds[m]? = some d) (c : k d) (h0 : i = m := by omega) : IxW ds i k := ⟨m, d, h0, hy, c⟩
theorem bnd {ds : List D} {m : Nat} {k : Nat → Prop} (c : k m) (h : m < ds.length := by simp <;> omega) : BndW ds (m : Int) k := ⟨m, rfl, h, c⟩
theorem bndi {ds : List D} {i : Int} {k : Nat → Prop} (c : k i.toNat) (h : 0 ≤ i ∧ i < ds.length := by simp <;> omega) : BndW ds i k := ⟨i.toNat, by omega, by omega, c⟩
theorem cut {n : Nat} {i j : Int} (a b : Nat) {k : Nat → Nat → Prop} (c : k a b) (h0 : i = a := by omega) (h1 : j = b := by omega) (h2 : a ≤ b := by omega) (h3 : b ≤ n := by first | omega | (simp <;> omega)) : CutW n i j k := ⟨a, b, h0, h1, h2, h3, c⟩
theorem mkw {n n' : Int} (m : Nat) {k : Nat → Prop} (c : k m) (h : n = m := by omega) (h' : n' = m := by omega) (hm : m ≤ 134217728 := by omega) : MakeW n n' k := ⟨m, h, h', hm, c⟩
theorem eqa {P : Program} {ty : TypeId} {us vs : List Value} {k : Prop} (c : k) (ht : P.underlying ty = some (.struct (P.fieldsOf ty)) := by exact rfl) (hp : P.stoodInHeld ty = false := by kernel_rfl) (hm : P.eqGuardType P.depth ty = false := by kernel_rfl)
  (hf : fieldsOk P 0 (P.fieldsOf ty).toList us vs = true := by exact rfl) : EqA P ty us vs k := ⟨ht, hp, hm, hf, c⟩
theorem ixs {ds : List D} {i : Nat} {d : D} {k : D → Prop} (c : k d) (h : i < ds.length := by first | omega | (simp only [List.length_set] <;> omega)) : @Option.rec D (fun _ => Prop) False k ((ds.set i d)[i]?) := ixn (by rw [List.getElem?_set_self h]) c
class LenI (ds : List D) (n : outParam Nat) : Prop where
 h : ds.length = n
instance (priority := low) (ds : List D) : LenI ds ds.length := ⟨rfl⟩
instance {α : Type} (f : α → D) (xs : List α) : LenI (xs.map f) xs.length := ⟨List.length_map ..⟩
instance (a b : List D) (n m : Nat) [h : LenI a n] [h2 : LenI b m] : LenI (a ++ b) (n + m) := ⟨by rw [List.length_append, h.h, h2.h]⟩
instance (i : Nat) (d : D) (a : List D) (n : Nat) [h : LenI a n] : LenI (a.set i d) n := ⟨by rw [List.length_set, h.h]⟩
instance (i : Nat) (d : D) : LenI (List.replicate i d) i := ⟨List.length_replicate ..⟩
instance : LenI [] 0 := ⟨rfl⟩
theorem len {ds : List D} {n : Nat} {k : Nat → Prop} [h : LenI ds n] (c : k n) : LenW ds k := ⟨n, h.h, c⟩
theorem mkn {m : Nat} {k : Nat → Prop} (c : k m) (hm : m ≤ 134217728 := by omega) : MakeW (m : Int) (m : Int) k := ⟨m, rfl, rfl, hm, c⟩
theorem cvs {a : Int} {k : Int → Prop} (c : k a) (lo : -9223372036854775808 ≤ a := by omega) (hi : a ≤ 9223372036854775807 := by omega) : ConvW .i64 a k := ⟨a, by rw [IntKind.wrap_i64]; omega, c⟩
theorem cutO {n : Nat} {i j : Int} (a b : Nat) {k : Nat → Nat → Prop} (c : k a b) (h0 : i = a := by omega) (h1 : j = b := by omega) (h2 : a < b := by omega) (h3 : b ≤ n := by first | omega | (simp <;> omega)) : CutO n i j k := ⟨a, b, h0, h1, h2, h3, c⟩
theorem cpy {ds ns : List D} {lo len : Nat} {k : Nat → List D → Prop} (n : Nat) (l : List D) [hd : PL ds] [hn : PL ns] (c : k n l) (h1 : n = Nat.min ns.length len := by rfl) (h0 : 0 < n := by decide) (he : l = ds.take lo ++ ns.take n ++ ds.drop (lo + n) := by rfl) : CopyP ds ns lo len k := ⟨n, l, hd.w, hn.w, h1, h0, he, c⟩
end Go.Proofs.Ytcmoifejjodgcaa.T

