
import Derived.Test.YtcmoifejjodgcaaRfp
namespace Go.Proofs.Ytcmoifejjodgcaa.T
open Go
set_option linter.unusedVariables false
set_option linter.unusedSimpArgs false
theorem ixo {α : Type} {f : α → D} {xs : List α} {m : Nat} {y : α} {k : D → Prop} (hy : xs[m]? = some y) (c : k (f y)) : @Option.rec D (fun _ => Prop) False k ((xs.map f)[m]?) := ixn (by rw [List.getElem?_map, hy]; rfl) c
class WR (d : D) : Prop where
 w : ∀ c ∈ d.row, Whole c
class WD (d : D) : Prop where
 w : Whole d
class WL (ds : List D) : Prop where
 w : ∀ d ∈ ds, WR d
class WDs (ds : List D) : Prop where
 w : ∀ d ∈ ds, Whole d
instance (x : Value) : WD (.v x) := ⟨.v x⟩
instance (sz : Nat) (ds : List D) [h : WL ds] : WD (.sl sz ds) := ⟨.sl sz ds fun d hd c hc => (h.w d hd).w c hc⟩
instance : WDs [] := ⟨fun d hd => by cases hd⟩
instance (d : D) (ds : List D) [h : WD d] [h2 : WDs ds] : WDs (d :: ds) := ⟨fun x hx => by rcases List.mem_cons.1 hx with rfl | hx; exact h.w; exact h2.w x hx⟩
instance (x : Value) : WR (.v x) := ⟨fun c hc => by simp only [D.row, List.mem_singleton] at hc; subst hc; exact .v x⟩
instance (sz : Nat) (ds : List D) [h : WD (.sl sz ds)] : WR (.sl sz ds) := ⟨fun c hc => by simp only [D.row, List.mem_singleton] at hc; subst hc; exact h.w⟩
instance (ds : List D) [h : WDs ds] : WR (.st ds) := ⟨fun c hc => h.w c hc⟩
instance : WL [] := ⟨fun d hd => by cases hd⟩
instance (d : D) (ds : List D) [h : WR d] [h2 : WL ds] : WL (d :: ds) := ⟨fun x hx => by rcases List.mem_cons.1 hx with rfl | hx; exact h; exact h2.w x hx⟩
instance {α : Type} (f : α → D) (xs : List α) [h : ∀ x, WR (f x)] : WL (xs.map f) := ⟨fun d hd => by obtain ⟨x, _, rfl⟩ := List.mem_map.1 hd; exact h x⟩
instance (a b : List D) [h : WL a] [h2 : WL b] : WL (a ++ b) := ⟨fun d hd => by rcases List.mem_append.1 hd with hd | hd; exact h.w d hd; exact h2.w d hd⟩
instance (n : Nat) (a : List D) [h : WL a] : WL (a.take n) := ⟨fun d hd => h.w d (List.mem_of_mem_take hd)⟩
instance (n : Nat) (a : List D) [h : WL a] : WL (a.drop n) := ⟨fun d hd => h.w d (List.mem_of_mem_drop hd)⟩
instance (n : Nat) (d : D) [h : WR d] : WL (List.replicate n d) := ⟨fun x hx => by rw [List.eq_of_mem_replicate hx]; exact h⟩
instance (n : Nat) (d : D) (a : List D) [h : WL a] [h2 : WR d] : WL (a.set n d) := ⟨fun x hx => by rcases List.mem_or_eq_of_mem_set hx with hx | rfl; exact h.w x hx; exact h2⟩
class PR (d : D) : Prop where
 w : isPlain d
class PL (ds : List D) : Prop where
 w : ∀ d ∈ ds, isPlain d
def vs : List D → Bool
 | [] => true
 | .v _ :: l => vs l
 | _ => false
theorem vs_plain : ∀ {l : List D}, vs l = true → ∀ c ∈ l, ∃ x, c = .v x
 | .v x :: l, h, c, hc => by
  rcases List.mem_cons.1 hc with rfl | hc
  ·exact ⟨x, rfl⟩
  ·exact vs_plain (l := l) h c hc
instance (x : Value) : PR (.v x) := ⟨fun c hc => by simp only [D.row, List.mem_singleton] at hc; exact ⟨x, hc⟩⟩
class VsOk (l : List D) : Prop where
 w : vs l = true
instance : VsOk [] := ⟨rfl⟩
instance (x : Value) (l : List D) [h : VsOk l] : VsOk (.v x :: l) := ⟨h.w⟩
instance (l : List D) [h : VsOk l] : PR (.st l) := ⟨fun c hc => vs_plain h.w c hc⟩
instance : PL [] := ⟨fun d hd => by cases hd⟩
instance (d : D) (ds : List D) [h : PR d] [h2 : PL ds] : PL (d :: ds) := ⟨fun x hx => by rcases List.mem_cons.1 hx with rfl | hx; exact h.w; exact h2.w x hx⟩
instance {α : Type} (f : α → D) (xs : List α) [h : ∀ x, PR (f x)] : PL (xs.map f) := ⟨fun d hd => by obtain ⟨x, _, rfl⟩ := List.mem_map.1 hd; exact (h x).w⟩
instance (a b : List D) [h : PL a] [h2 : PL b] : PL (a ++ b) := ⟨fun d hd => by rcases List.mem_append.1 hd with hd | hd; exact h.w d hd; exact h2.w d hd⟩
instance (n : Nat) (a : List D) [h : PL a] : PL (a.take n) := ⟨fun d hd => h.w d (List.mem_of_mem_take hd)⟩
instance (n : Nat) (a : List D) [h : PL a] : PL (a.drop n) := ⟨fun d hd => h.w d (List.mem_of_mem_drop hd)⟩
instance (n : Nat) (d : D) [h : PR d] : PL (List.replicate n d) := ⟨fun x hx => by rw [List.eq_of_mem_replicate hx]; exact h.w⟩
theorem appP {ds ns : List D} {k : Prop} [h : PL ns] (hk : k) (hl : ds.length + ns.length ≤ 134217728 := by simp only [List.length_map, List.length_append, List.length_take, List.length_drop, List.length_cons, List.length_nil, List.length_replicate] <;> omega) : AppP ds ns k := ⟨h.w, hl, hk⟩
theorem appO {ds ns : List D} {k : Prop} [h : WL ns] (hk : k) (hl : ds.length + ns.length ≤ 134217728 := by simp only [List.length_map, List.length_append, List.length_take, List.length_drop, List.length_cons, List.length_nil, List.length_replicate] <;> omega) : AppO ds ns k :=
 ⟨fun d hd c hc e => (by have h9 := (h.w d hd).w c hc; subst e; cases h9), hl, hk⟩
structure WholeW (d : D) (k : Prop) : Prop where
 h : Whole d
 c : k
def snapCW (rs : Rs) (c : C) (k : C → Prop) : Prop := match c with
 | .ro d => k (.ro d)
 | .ref s => (match s with | ⟨b, p, q⟩ => cellW rs b p q fun _ c => match c with
  | .own d => WholeW d (k (.ro d))
  | _ => False)
 | _ => False
def snapCsW (rs : Rs) : List C → (List C → Prop) → Prop
 | [], k => k []
 | c :: l, k => snapCW rs c fun c => snapCsW rs l fun l => k (c :: l)
def capDsW : List C → (List D → Prop) → Prop
 | [], k => k []
 | c :: l, k => match c with
  | .own d => WholeW d (capDsW l fun ds => k (d :: ds))
  | .ro d => capDsW l fun ds => k (d :: ds)
  | _ => False
def capNeW (k : TV → Prop) : List D → Prop
 | [] => False
 | d :: ds => k (.cptr (d :: ds))
def capTW (rs : Rs) (t : TV) (k : TV → Prop) : Prop := match t with
 | .ptr pl => (match pl with | ⟨b, p, q⟩ => atW rs b p fun m row => BR m (dropW row q fun l => capDsW l (capNeW k)) False)
 | .c c => BR (capC c) (k (.c c)) False
 | .agg cs => BR (cs.all capC) (k (.agg cs)) False
 | _ => False
def capTsW (rs : Rs) : List TV → (List TV → Prop) → Prop
 | [], k => k []
 | c :: l, k => capTW rs c fun c => capTsW rs l fun l => k (c :: l)
def snapW (rs : Rs) (t : TS) (k : TS → Prop) : Prop := match t with
 | .one (.c c) => snapCW rs c fun c => k (.one (.c c))
 | .one (.agg cs) => snapCsW rs cs fun cs => k (.one (.agg cs))
 | .one (.cptr ds) => k (.one (.cptr ds))
 | .fn f l => (match l with | [] => k (.fn f []) | t :: l => capTsW rs (t :: l) fun l => k (.fn f l))
 | _ => False
def snapsW (rs : Rs) : List TS → (List TS → Prop) → Prop
 | [], k => k []
 | t :: l, k => snapW rs t fun t => snapsW rs l fun l => k (t :: l)
section
variable {P : Program} {w0 : World} {g0 : Gh} {n : Nat} {e : List En} {rs : Rs} {o : Oper} {K : Kn}
theorem snapCW_of {c : C} {k : C → Prop} (h : snapCW rs c k) : ∃ c', SnapC (stOf n e rs) c c' ∧ k c' := by
 unfold snapCW at h
 split at h
 ·exact ⟨_, .ro _, h⟩
 ·rename_i s
  obtain ⟨b, p, q⟩ := s
  simp only at h
  obtain ⟨_, c', h1, _, h2⟩ := cellW_of (n := n) (e := e) h
  split at h2
  ·exact ⟨_, .ref h1 h2.h, h2.c⟩
  ·exact h2.elim
 ·exact h.elim
theorem snapCsW_of : ∀ {l : List C} {k : List C → Prop}, snapCsW rs l k → ∃ l', SnapCs (stOf n e rs) l l' ∧ k l'
 | [], k, h => ⟨[], .nil, h⟩
 | c :: l, k, h => by
  obtain ⟨c', h1, h2⟩ := snapCW_of (n := n) (e := e) h
  obtain ⟨l', h3, h4⟩ := snapCsW_of (l := l) h2
  exact ⟨_, .cons h1 h3, h4⟩
def CapOk (st : St) (c c' : TV) : Prop := (capV c = true ∧ c' = c) ∨ ∃ pl ds, c = .ptr pl ∧ c' = .cptr ds ∧ st.isMem pl = true ∧ 0 < ds.length ∧ ∀ (i : Nat) d, ds[i]? = some d → (st.cellAt ⟨pl.k, pl.p, pl.q + i⟩ = some (.own d) ∧ Whole d) ∨ st.cellAt ⟨pl.k, pl.p, pl.q + i⟩ = some (.ro d)
theorem capDsW_of : ∀ {l : List C} {k : List D → Prop}, capDsW l k → ∃ ds, k ds ∧ ∀ (i : Nat) d, ds[i]? = some d → (l[i]? = some (.own d) ∧ Whole d) ∨ l[i]? = some (.ro d)
 | [], k, h => ⟨[], h, fun i d h => by simp at h⟩
 | c :: l, k, h => by
  cases c with
  | own d =>
   obtain ⟨ds, h1, h2⟩ := capDsW_of (l := l) h.c
   refine ⟨_, h1, fun i d' hi => ?_⟩
   cases i with
   | zero => simp only [List.getElem?_cons_zero, Option.some.injEq] at hi ⊢; subst hi; exact .inl ⟨rfl, h.h⟩
   | succ i => exact h2 i d' (by simpa using hi)
  | ro d =>
   obtain ⟨ds, h1, h2⟩ := capDsW_of (l := l) h
   refine ⟨_, h1, fun i d' hi => ?_⟩
   cases i with
   | zero => simp only [List.getElem?_cons_zero, Option.some.injEq] at hi ⊢; subst hi; exact .inr rfl
   | succ i => exact h2 i d' (by simpa using hi)
  | _ => exact h.elim
theorem capTW_of {t : TV} {k : TV → Prop} (h : capTW rs t k) : ∃ t', CapOk (stOf n e rs) t t' ∧ k t' := by
 unfold capTW at h
 split at h
 ·rename_i pl
  obtain ⟨b, p, q⟩ := pl
  simp only at h
  obtain ⟨m, row, h1, h2, h3⟩ := atW_of (n := n) (e := e) h
  obtain ⟨rfl, h4⟩ := BR_yes h3
  obtain ⟨ds, h5, h6⟩ := capDsW_of (dropW_of h4)
  cases ds with
  | nil => exact h5.elim
  | cons d ds =>
   refine ⟨.cptr (d :: ds), .inr ⟨⟨b, p, q⟩, d :: ds, rfl, rfl, ?_, by simp, fun i d' hi => ?_⟩, h5⟩
   ·exact h2 q
   ·rcases h6 i d' hi with ⟨h7, h8⟩ | h7
    ·exact .inl ⟨by rw [h1]; simpa using h7, h8⟩
    ·exact .inr (by rw [h1]; simpa using h7)
 ·obtain ⟨h1, h2⟩ := BR_yes h
  exact ⟨_, .inl ⟨h1, rfl⟩, h2⟩
 ·obtain ⟨h1, h2⟩ := BR_yes h
  exact ⟨_, .inl ⟨h1, rfl⟩, h2⟩
 ·exact h.elim
theorem capTsW_of : ∀ {l : List TV} {k : List TV → Prop}, capTsW rs l k → ∃ l', (l'.length = l.length ∧ ∀ (j : Nat) c c', l[j]? = some c → l'[j]? = some c' → CapOk (stOf n e rs) c c') ∧ k l'
 | [], k, h => ⟨[], ⟨rfl, fun j c c' h => by simp at h⟩, h⟩
 | c :: l, k, h => by
  obtain ⟨c', h1, h2⟩ := capTW_of (n := n) (e := e) h
  obtain ⟨l', ⟨h3, h4⟩, h5⟩ := capTsW_of (l := l) h2
  refine ⟨c' :: l', ⟨by simp [h3], fun j x x' hx hx' => ?_⟩, h5⟩
  cases j with
  | zero =>
   simp only [List.getElem?_cons_zero, Option.some.injEq] at hx hx'
   subst hx; subst hx'
   exact h1
  | succ j => exact h4 j x x' (by simpa using hx) (by simpa using hx')
theorem snapW_of {t : TS} {k : TS → Prop} (h : snapW rs t k) : ∃ t', Snap (stOf n e rs) t t' ∧ k t' := by
 unfold snapW at h
 split at h
 ·obtain ⟨c', h1, h2⟩ := snapCW_of (n := n) (e := e) h
  refine ⟨_, ?_, h2⟩
  cases h1 with
  | ro d => exact .ro d
  | ref h9 hw => exact .ownRef h9 hw
 ·obtain ⟨c', h1, h2⟩ := snapCsW_of (n := n) (e := e) h
  exact ⟨_, .aggR h1, h2⟩
 ·exact ⟨_, .cptr _, h⟩
 ·split at h
  ·exact ⟨_, .fn _, h⟩
  ·obtain ⟨l', ⟨h1, h2⟩, h3⟩ := capTsW_of (n := n) (e := e) h
   exact ⟨_, .fnP _ _ _ h1 h2, h3⟩
 ·exact h.elim
theorem snapsW_of : ∀ {l : List TS} {k : List TS → Prop}, snapsW rs l k → ∃ l', Snaps (stOf n e rs) l l' ∧ k l'
 | [], k, h => ⟨[], .nil, h⟩
 | c :: l, k, h => by
  obtain ⟨c', h1, h2⟩ := snapW_of (n := n) (e := e) h
  obtain ⟨l', h3, h4⟩ := snapsW_of (l := l) h2
  exact ⟨_, .cons h1 h3, h4⟩
end
structure CallW (m : Bool) (P : Program) (w0 : World) (g0 : Gh) (n : Nat) (e : List En) (rs : Rs) (f : FuncId) (ts : List TS) (dst : Option Nat) (K : Kn) : Prop where
 h : ∀ (o : Oper) (cx : Operand) (args : List Operand) (tys : Array TypeId), o.op = .call { callee := .value cx, args := args.toArray, argTypes := tys } → T.opd 0 (stOf n e rs) cx = some (.fn f []) → o.dst = dst →
  opds (stOf n e rs) args = some ts → OpX m P w0 g0 o (stOf n e rs) (Lg n K)
def Callable (P : Program) (f : FuncId) : Prop := ∃ fn, P.funcs[f]? = some fn ∧ fn.body.isNone = false ∧ (fn.name == "runtime.NumGoroutine") = false
theorem Callable.mk {P : Program} {f : FuncId} {fn : Func} (h1 : P.funcs[f]? = some fn) (h2 : fn.body.isNone = false) (h3 : (fn.name == "runtime.NumGoroutine") = false) : Callable P f := ⟨fn, h1, h2, h3⟩
section
variable {P : Program} {w0 : World} {g0 : Gh} {n : Nat} {e : List En} {rs : Rs} {K : Kn} {m : Bool} {f : FuncId} {ts pts : List TS} {d : Nat}
theorem callP {t : TS} {x : Value} (hc : FunK P w0 g0 f pts (RP t)) (hk : K (.set d t :: e) rs)
  (hs : snapsW rs ts fun l => l = pts := by (repeat first | exact rfl | refine WholeW.mk (by first | exact WD.w | assumption) ?_ | refine ixn (by assumption) ?_ | refine ixo (by assumption) ?_); done)
  (hp : freeS t = some x := by exact rfl) (hf : Callable P f := by exact .mk rfl rfl rfl) : CallW m P w0 g0 n e rs f ts (some d) K := ⟨fun o cx args tys ho hcx hd hx => by
 obtain ⟨fn, h1, h2, h3⟩ := hf
 obtain ⟨l, h4, rfl⟩ := snapsW_of (n := n) (e := e) hs
 refine .of (OpM.callF ho hcx h1 h2 h3 hx hc h4 hp rfl ?_)
 rw [hd]
 exact .put hk⟩
theorem callL {sz : Nat} {ds : List D} (hc : FunK P w0 g0 f pts (RL sz ds)) (hk : freshW d false [.own (.sl sz ds)] e rs fun e rs => K (.set d (.one (.c (.ref ⟨d, [], 0⟩))) :: e) rs)
  (hs : snapsW rs ts fun l => l = pts := by (repeat first | exact rfl | refine WholeW.mk (by first | exact WD.w | assumption) ?_ | refine ixn (by assumption) ?_ | refine ixo (by assumption) ?_); done)
  (hf : Callable P f := by exact .mk rfl rfl rfl) : CallW m P w0 g0 n e rs f ts (some d) K := ⟨fun o cx args tys ho hcx hd hx => by
 obtain ⟨fn, h1, h2, h3⟩ := hf
 obtain ⟨l, h4, rfl⟩ := snapsW_of (n := n) (e := e) hs
 obtain ⟨h5, h6⟩ := fresh_put (n := n) hk
 exact .of (OpM.callL ho hcx h1 h2 h3 hd hx hc h4 h6 h5)⟩
theorem callG {l : List RD} (hc : FunK P w0 g0 f pts (RG l)) (hk : forceDs (cellsD l) fun row => slOf row fun cs => freshW d false cs e rs fun e rs => forceS (resT (valsD d 0 l)) fun t => K (.set d t :: e) rs)
  (hs : snapsW rs ts fun l => l = pts := by (repeat first | exact rfl | refine WholeW.mk (by first | exact WD.w | assumption) ?_ | refine ixn (by assumption) ?_ | refine ixo (by assumption) ?_); done)
  (hok : (cellsD l).all okD = true := by exact rfl) (hf : Callable P f := by exact .mk rfl rfl rfl) : CallW m P w0 g0 n e rs f ts (some d) K := ⟨fun o cx args tys ho hcx hd hx => by
 obtain ⟨fn, h1, h2, h3⟩ := hf
 obtain ⟨l', h4, rfl⟩ := snapsW_of (n := n) (e := e) hs
 obtain ⟨h5, e', rs', h6, h7⟩ := freshW_of (n := n) (slOf_of (forceDs_iff.1 hk))
 refine .of (OpM.callG ho hcx h1 h2 h3 hd hx hc h4 hok ?_ h5)
 rw [h6]
 exact .put (forceS_iff.1 h7)⟩
end
structure CallC (m : Bool) (P : Program) (w0 : World) (g0 : Gh) (n : Nat) (e : List En) (rs : Rs) (f : FuncId) (ts : List TS) (caps : List TV) (dst : Option Nat) (K : Kn) : Prop where
 h : ∀ (o : Oper) (cx : Operand) (args : List Operand) (tys : Array TypeId), o.op = .call { callee := .value cx, args := args.toArray, argTypes := tys } → T.opd 0 (stOf n e rs) cx = some (.fn f caps) → o.dst = dst →
  opds (stOf n e rs) args = some ts → OpX m P w0 g0 o (stOf n e rs) (Lg n K)
section
variable {P : Program} {w0 : World} {g0 : Gh} {n : Nat} {e : List En} {rs : Rs} {K : Kn} {m : Bool} {f : FuncId} {ts pts : List TS} {caps : List TV} {d : Nat}
theorem callCP {t : TS} {x : Value} (hc : FunK P w0 g0 f pts (RP t)) (hk : K (.set d t :: e) rs)
  (hs : snapsW rs (ts ++ caps.map TS.one) fun l => l = pts := by (repeat first | exact rfl | refine WholeW.mk (by first | exact WD.w | assumption) ?_ | refine ixn (by assumption) ?_ | refine ixo (by assumption) ?_); done)
  (hp : freeS t = some x := by exact rfl) (hf : Callable P f := by exact .mk rfl rfl rfl) : CallC m P w0 g0 n e rs f ts caps (some d) K := ⟨fun o cx args tys ho hcx hd hx => by
 obtain ⟨fn, h1, h2, h3⟩ := hf
 obtain ⟨l, h4, rfl⟩ := snapsW_of (n := n) (e := e) hs
 refine .of (OpM.callFC ho hcx h1 h2 h3 hx hc h4 hp rfl ?_)
 rw [hd]
 exact .put hk⟩
theorem callCG {l : List RD} (hc : FunK P w0 g0 f pts (RG l)) (hk : forceDs (cellsD l) fun row => slOf row fun cs => freshW d false cs e rs fun e rs => forceS (resT (valsD d 0 l)) fun t => K (.set d t :: e) rs)
  (hs : snapsW rs (ts ++ caps.map TS.one) fun l => l = pts := by (repeat first | exact rfl | refine WholeW.mk (by first | exact WD.w | assumption) ?_ | refine ixn (by assumption) ?_ | refine ixo (by assumption) ?_); done)
  (hok : (cellsD l).all okD = true := by exact rfl) (hf : Callable P f := by exact .mk rfl rfl rfl) : CallC m P w0 g0 n e rs f ts caps (some d) K := ⟨fun o cx args tys ho hcx hd hx => by
 obtain ⟨fn, h1, h2, h3⟩ := hf
 obtain ⟨l', h4, rfl⟩ := snapsW_of (n := n) (e := e) hs
 obtain ⟨h5, e', rs', h6, h7⟩ := freshW_of (n := n) (slOf_of (forceDs_iff.1 hk))
 refine .of (OpM.callGC ho hcx h1 h2 h3 hd hx h4 hc hok ?_ h5)
 rw [h6]
 exact .put (forceS_iff.1 h7)⟩
end
def callW (m : Bool) (P : Program) (w0 : World) (g0 : Gh) (n : Nat) (c : Call) (dst : Option Nat) (e : List En) (rs : Rs) (K : Kn) : Prop := match c with
 | ⟨cl, as, ts⟩ => (match cl with
  | .value cx => opdW n e 0 cx fun t => (match t with
   | .fn f l => (match l with
    | [] => (match as with | ⟨as⟩ => opdsW n e as fun ts => CallW m P w0 g0 n e rs f ts dst K)
    | t :: l => (match as with | ⟨as⟩ => opdsW n e as fun ts => CallC m P w0 g0 n e rs f ts (t :: l) dst K))
   | _ => False)
  | _ => False)
def isNilC : Operand → Bool
 | .const v => (match v with | .slice none 0 0 => true | _ => false)
 | _ => false
def moveNilW (P : Program) (k : Nat) (ty : TypeId) (e : List En) (rs : Rs) (K : Kn) : Prop := match P.underlying ty with
 | some (.slice el) => sizeW P el fun sz => ownW [k] k sz [] e rs K
 | _ => False
def nilPtrW (P : Program) (n k : Nat) (dst : Option Nat) (t : TypeId) (x : Operand) (e : List En) (rs : Rs) (K : Kn) : Prop := opdW n e 0 x fun a => match a with
 | .one (.ptr pl) => (match pl with
  | ⟨b, p, q⟩ => (match p with
   | [] => sizeW P t fun s => BR (Nat.beq s 1) (cellW rs b [] q fun m _ => BR m (store1W b [] q (.ref ⟨k, [], 0⟩) e rs fun e rs => putW dst (.one .dead) e rs K) False) False
   | _ :: _ => False))
 | _ => False
def storeNilW (P : Program) (n : Nat) (dst : Option Nat) (t : TypeId) (x : Operand) (e : List En) (rs : Rs) (K : Kn) : Prop := match P.underlying t with
 | some (.slice el) => sizeW P el fun sz => renewW [999999] 999999 [.own (.sl sz [])] e rs fun e rs => nilPtrW P n 999999 dst t x e rs K
 | _ => False
section
variable {P : Program} {w0 : World} {g0 : Gh} {n : Nat} {e : List En} {rs : Rs} {o : Oper} {K : Kn}
inductive CopyP (ds ns : List D) (lo len : Nat) (k : Nat → List D → Prop) : Prop
 | mk (n : Nat) (l : List D) (hds : ∀ d ∈ ds, isPlain d) (hns : ∀ d ∈ ns, isPlain d) (hn : n = Nat.min ns.length len) (h0 : 0 < n) (he : l = ds.take lo ++ ns.take n ++ ds.drop (lo + n)) (c : k n l)
def copyOnW (P : Program) (n : Nat) (dst : Option Nat) (y : Operand) (el : TypeId) (k lo : Nat) (zh : Option (Nat × Nat)) (e : List En) (rs : Rs) (K : Kn) : Prop := soleW rs k fun sz ds => sizeW P el fun s => BR (Nat.beq sz s)
 (opdW n e 0 y fun tv => listW rs tv fun sz' ns => BR (Nat.beq sz' sz) (match zh with
  | none => CopyP ds ns 0 ds.length fun m l => rewriteW k sz l e rs fun e rs => putW dst (I m) e rs K
  | some x => (match x with | (z, hi) => BR (Nat.beq z sz) (CopyP ds ns lo (hi - lo) fun m l => rewriteW k sz l e rs fun e rs => putW dst (I m) e rs K) False)) False) False
def copyW (P : Program) (n : Nat) (dst : Option Nat) (x y : Operand) (t : TypeId) (e : List En) (rs : Rs) (K : Kn) : Prop := match P.underlying t with
 | some (.slice el) => opdW n e 0 x fun td => (match td with
  | .one (.c (.ref pl)) => (match pl with | ⟨k, p, q⟩ => BR (p.isEmpty && Nat.beq q 0) (copyOnW P n dst y el k 0 none e rs K) False)
  | .one (.cut pl z lo hi) => (match pl with | ⟨k, p, q⟩ => BR (p.isEmpty && Nat.beq q 0) (copyOnW P n dst y el k lo (some (z, hi)) e rs K) False)
  | _ => False)
 | _ => False
theorem copyOnW_of {x y : Operand} {t t2 el : TypeId} (ho : o.op = .call { callee := .builtin .copy, args := #[x, y], argTypes := #[t, t2] }) (hu : P.underlying t = some (.slice el)) {td : TS} (hx : T.opd 0 (stOf n e rs) x = some td) {k lo : Nat} {zh : Option (Nat × Nat)}
  (htd : (zh = none ∧ lo = 0 ∧ td = .one (.c (.ref ⟨k, [], 0⟩))) ∨ ∃ z hi, zh = some (z, hi) ∧ td = .one (.cut ⟨k, [], 0⟩ z lo hi)) (h : copyOnW P n o.dst y el k lo zh e rs K) : OpT P w0 g0 o (stOf n e rs) (Lg n K) := by
 obtain ⟨sz, ds, h1, h2⟩ := soleW_of (n := n) (e := e) h
 obtain ⟨s, h3, h4⟩ := sizeW_of h2
 obtain ⟨h5, h6⟩ := BR_yes h4
 have h5 := Nat.eq_of_beq_eq_true h5
 subst h5
 obtain ⟨tv, h7, h8⟩ := opdW_of (rs := rs) h6
 obtain ⟨sz', ns, h9, h10⟩ := listW_of (n := n) (e := e) h8
 obtain ⟨h11, h12⟩ := BR_yes h10
 have h11 := Nat.eq_of_beq_eq_true h11
 subst h11
 have fin : ∀ {lo len : Nat}, dstOf ds td = some (k, lo, len) → (∀ pl z i j, td = .one (.cut pl z i j) → z = sz') → (CopyP ds ns lo len fun m l => rewriteW k sz' l e rs fun e rs => putW o.dst (I m) e rs K) → OpT P w0 g0 o (stOf n e rs) (Lg n K) := fun hd hz hc => by
  obtain ⟨m, l, hds, hns, hm, h0, rfl, hc⟩ := hc
  obtain ⟨hkp, e2, rs2, hs2, hk2⟩ := rewriteW_of (n := n) hc
  refine .copy ho hx h7 h1 hd hz h9 hds hns hu h3 hm h0 hkp ?_
  rw [hs2]
  exact putW_of hk2
 rcases htd with ⟨rfl, rfl, rfl⟩ | ⟨z, hi, rfl, rfl⟩
 ·exact fin rfl (fun pl z i j h => by cases h) h12
 ·obtain ⟨h13, h15⟩ := BR_yes h12
  exact fin rfl (fun pl z' i j h => by cases h; exact Nat.eq_of_beq_eq_true h13) h15
theorem copyW_of {x y : Operand} {t t2 : TypeId} (ho : o.op = .call { callee := .builtin .copy, args := #[x, y], argTypes := #[t, t2] }) (h : copyW P n o.dst x y t e rs K) : OpT P w0 g0 o (stOf n e rs) (Lg n K) := by
 unfold copyW at h
 split at h
 ·rename_i el hu
  obtain ⟨td, h1, h2⟩ := opdW_of (rs := rs) h
  split at h2
  ·rename_i pl
   obtain ⟨k, p, q⟩ := pl
   obtain ⟨h3, h4⟩ := BR_yes h2
   simp only [Bool.and_eq_true, List.isEmpty_iff] at h3
   obtain ⟨rfl, h3⟩ := h3
   have h3 := Nat.eq_of_beq_eq_true h3
   subst h3
   exact copyOnW_of ho hu h1 (.inl ⟨rfl, rfl, rfl⟩) h4
  ·rename_i pl z lo hi
   obtain ⟨k, p, q⟩ := pl
   obtain ⟨h3, h4⟩ := BR_yes h2
   simp only [Bool.and_eq_true, List.isEmpty_iff] at h3
   obtain ⟨rfl, h3⟩ := h3
   have h3 := Nat.eq_of_beq_eq_true h3
   subst h3
   exact copyOnW_of ho hu h1 (.inr ⟨z, hi, rfl, rfl⟩) h4
  ·exact h2.elim
 ·exact h.elim
end
def stepW (m : Bool) (P : Program) (w0 : World) (g0 : Gh) (n : Nat) (o : Oper) (e : List En) (rs : Rs) (K : Kn) : Prop := match o with
 | ⟨dst, op, ty, _, _, _⟩ => (match op with
  | .call c => (match c with
   | ⟨cl, as, ts⟩ => (match cl with
    | .builtin b => (match b with
     | .append => BR m False (match as with | ⟨as⟩ => (match ts with | ⟨ts⟩ => (match as, ts with
      | [x, y], [t, t2] => dstW dst fun k => appendW P n k x y t t2 e rs K
      | _, _ => False)))
     | .copy => BR m False (match as with | ⟨as⟩ => (match ts with | ⟨ts⟩ => (match as, ts with
      | [x, y], [t, t2] => copyW P n dst x y t e rs K
      | _, _ => False)))
     | _ => BR m False (valW P n e rs (.call ⟨.builtin b, as, ts⟩) fun t => putW dst t e rs K))
    | _ => callW m P w0 g0 n ⟨cl, as, ts⟩ dst e rs K))
  | .buildSlice t len parts => dstW dst fun k => sliceOfW P n e rs k t len parts.toList K
  | .box t x => BR m False (dstW dst fun k => boxW P n e rs k t x K)
  | .alloc t => BR m False (dstW dst fun k => allocW P k t e rs K)
  | .makeSlice t x y => BR m False (dstW dst fun k => makeW P n e rs k t x y K)
  | .build t parts => BR m False (dstW dst fun k => buildW P n k t parts.toList e rs K)
  | .store t x y => BR m False (BR (isNilC y) (storeNilW P n dst t x e rs K) (storeW P n dst t x y e rs K))
  | .move x => BR m False (BR (isNilC x) (dstW dst fun k => moveNilW P k ty e rs K) (valW P n e rs (.move x) fun t => putW dst t e rs K))
  | .assign x => BR m False (BR (isNilC x) (dstW dst fun k => moveNilW P k ty e rs K) (valW P n e rs (.assign x) fun t => putW dst t e rs K))
  | op => BR m False (valW P n e rs op fun t => putW dst t e rs K))
section
variable {P : Program} {w0 : World} {g0 : Gh} {n : Nat} {e : List En} {rs : Rs} {o : Oper} {K : Kn} {m : Bool}
theorem callW_of {c : Call} (ho : o.op = .call c) (h : callW m P w0 g0 n c o.dst e rs K) : OpX m P w0 g0 o (stOf n e rs) (Lg n K) := by
 obtain ⟨cl, ⟨as⟩, ts⟩ := c
 unfold callW at h
 simp only at h
 split at h
 ·obtain ⟨t, h1, h2⟩ := opdW_of (rs := rs) h
  split at h2
  ·split at h2
   ·obtain ⟨ts, h3, h4⟩ := opdsW_of (rs := rs) h2
    exact h4.h o _ as _ ho h1 rfl h3
   ·obtain ⟨ts, h3, h4⟩ := opdsW_of (rs := rs) h2
    exact h4.h o _ as _ ho h1 rfl h3
  ·exact h2.elim
 ·exact h.elim
theorem isNilC_eq {x : Operand} (h : isNilC x = true) : x = .const (.slice none 0 0) := by
 unfold isNilC at h
 split at h
 ·split at h
  ·rfl
  ·cases h
 ·cases h
theorem moveNilW_of {k : Nat} {ty : TypeId} (ho : o.op = .move (.const (.slice none 0 0)) ∨ o.op = .assign (.const (.slice none 0 0))) (hd : o.dst = some k) (h : moveNilW P k ty e rs K) : OpT P w0 g0 o (stOf n e rs) (Lg n K) := by
 unfold moveNilW at h
 split at h
 ·obtain ⟨sz, h1, h2⟩ := sizeW_of h
  obtain ⟨h3, h4⟩ := ownW_of (n := n) h2
  exact .moveNil ho hd sz h4 h3
 ·exact h.elim
theorem storeNilW_of {t : TypeId} {x : Operand} (ho : o.op = .store t x (.const (.slice none 0 0))) (h : storeNilW P n o.dst t x e rs K) : OpT P w0 g0 o (stOf n e rs) (Lg n K) := by
 unfold storeNilW at h
 split at h
 ·obtain ⟨sz, h1, h2⟩ := sizeW_of h
  obtain ⟨hk, e1, rs1, h3, h4⟩ := renewW_of (n := n) h2
  unfold nilPtrW at h4
  obtain ⟨a, h5, h6⟩ := opdW_of (rs := rs1) h4
  split at h6
  ·rename_i pl
   obtain ⟨b, p, q⟩ := pl
   simp only at h6
   split at h6
   ·obtain ⟨s, h7, h8⟩ := sizeW_of h6
    obtain ⟨h9, h10⟩ := BR_yes h8
    have h9 := Nat.eq_of_beq_eq_true h9
    subst h9
    obtain ⟨m, c0, h11, h12, h13⟩ := cellW_of (n := n) (e := e1) h10
    obtain ⟨rfl, h14⟩ := BR_yes h13
    obtain ⟨st', h15, e', rs', h16, h17⟩ := store1W_of (n := n) h14
    subst h16
    refine .storeNil (k := 999999) ho sz (by rw [h3]; exact h5) h7 (by rw [h3]; exact h11) (by rw [h3]; exact h12) (by rw [h3]; exact h15) (putW_of h17) hk
   ·exact h6.elim
  ·exact h6.elim
 ·exact h.elim
theorem stepVal (h : valW P n e rs o.op fun t => putW o.dst t e rs K) : OpT P w0 g0 o (stOf n e rs) (Lg n K) := by
 obtain ⟨t, h1, h2⟩ := valW_of (w0 := w0) (g0 := g0) h
 exact .val h1 (putW_of h2)
theorem stepW_of (h : stepW m P w0 g0 n o e rs K) : OpX m P w0 g0 o (stOf n e rs) (Lg n K) := by
 obtain ⟨dst, op, ty, pos, af, gd⟩ := o
 have hT : ∀ {A : Prop}, BR m False A → (A → OpT P w0 g0 ⟨dst, op, ty, pos, af, gd⟩ (stOf n e rs) (Lg n K)) → OpX m P w0 g0 ⟨dst, op, ty, pos, af, gd⟩ (stOf n e rs) (Lg n K) := fun h1 h2 => by
  obtain ⟨rfl, h3⟩ := BR_no h1
  exact h2 h3
 unfold stepW at h
 simp only at h
 split at h
 ·rename_i c
  obtain ⟨cl, as, ts⟩ := c
  simp only at h
  split at h
  ·split at h
   ·refine hT h fun h => ?_
    obtain ⟨as⟩ := as
    obtain ⟨ts⟩ := ts
    simp only at h
    split at h
    ·obtain ⟨k, h1, h2⟩ := dstW_of h
     exact appendW_of rfl h1 h2
    ·exact h.elim
   ·refine hT h fun h => ?_
    obtain ⟨as⟩ := as
    obtain ⟨ts⟩ := ts
    simp only at h
    split at h
    ·exact copyW_of rfl h
    ·exact h.elim
   ·exact hT h fun h => stepVal h
  ·exact callW_of rfl h
 ·obtain ⟨k, h1, h2⟩ := dstW_of h
  exact sliceOfW_of rfl h1 h2
 ·refine hT h fun h => ?_
  obtain ⟨k, h1, h2⟩ := dstW_of h
  exact boxW_of rfl h1 h2
 ·refine hT h fun h => ?_
  obtain ⟨k, h1, h2⟩ := dstW_of h
  exact allocW_of rfl h1 h2
 ·refine hT h fun h => ?_
  obtain ⟨k, h1, h2⟩ := dstW_of h
  exact makeW_of rfl h1 h2
 ·refine hT h fun h => ?_
  obtain ⟨k, h1, h2⟩ := dstW_of h
  exact buildW_of rfl h1 h2
 ·refine hT h fun h => ?_
  rcases BR_iff.1 h with ⟨h1, h2⟩ | ⟨h1, h2⟩
  ·exact storeNilW_of (by rw [isNilC_eq h1]) h2
  ·exact storeW_of rfl h2
 ·refine hT h fun h => ?_
  rcases BR_iff.1 h with ⟨h1, h2⟩ | ⟨h1, h2⟩
  ·obtain ⟨k, h3, h4⟩ := dstW_of h2
   exact moveNilW_of (.inl (by rw [isNilC_eq h1])) h3 h4
  ·exact stepVal h2
 ·refine hT h fun h => ?_
  rcases BR_iff.1 h with ⟨h1, h2⟩ | ⟨h1, h2⟩
  ·obtain ⟨k, h3, h4⟩ := dstW_of h2
   exact moveNilW_of (.inr (by rw [isNilC_eq h1])) h3 h4
  ·exact stepVal h2
 ·exact hT h fun h => stepVal h
end
end Go.Proofs.Ytcmoifejjodgcaa.T

