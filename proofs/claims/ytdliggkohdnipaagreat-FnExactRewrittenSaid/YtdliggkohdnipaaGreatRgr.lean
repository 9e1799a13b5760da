import Derived.Test.YtdliggkohdnipaaGreatRfr
set_option linter.unusedVariables false
set_option linter.unusedSimpArgs false
namespace Go.Proofs.YtdliggkohdnipaaGreat.T
open Go
section
variable {ds ns:List D} {k:Nat} {x y:Operand} {t t2:TypeId}
theorem aI {α:Type} {f: α→D} {xs:List α} {m:Nat} {y: α} {k:D→Prop} (hy:xs[m]? = some y) (c:k (f y)): @Option.rec D (fun _=>Prop) False k ((xs.map f)[m]?):=xT (by rw [List.getElem?_map,hy];rfl) c
class WR (d:D):Prop where
 w:∀ c ∈ d.row,Whole c
class WD (d:D):Prop where
 w:Whole d
class WL (ds:List D):Prop where
 w:∀ d ∈ ds,WR d
class WDs (ds:List D):Prop where
 w:∀ d ∈ ds,Whole d
instance (x:Value):WD (.v x):=⟨.v x⟩
instance (sz:Nat) (ds:List D) [h:WL ds]:WD (.sl sz ds):=⟨.sl sz ds fun d hd c hc=>(h.w d hd).w c hc⟩
instance:WDs []:=⟨fun d hd=>by cases hd⟩
instance (d:D) (ds:List D) [h:WD d] [h2:WDs ds]:WDs (d :: ds):=⟨fun x hx=>by rcases List.mem_cons.1 hx with rfl|hx;exact h.w;exact h2.w x hx⟩
instance (x:Value):WR (.v x):=⟨fun c hc=>by simp only [D.row,List.mem_singleton] at hc;subst hc;exact .v x⟩
instance (sz:Nat) (ds:List D) [h:WD (.sl sz ds)]:WR (.sl sz ds):=⟨fun c hc=>by simp only [D.row,List.mem_singleton] at hc;subst hc;exact h.w⟩
instance (ds:List D) [h:WDs ds]:WR (.st ds):=⟨fun c hc=>h.w c hc⟩
instance:WL []:=⟨fun d hd=>by cases hd⟩
instance {α:Type} (f: α→D) (xs:List α) [h:∀ x,WR (f x)]:WL (xs.map f):=⟨fun d hd=>by obtain ⟨x,_,rfl⟩:=List.mem_map.1 hd;exact h x⟩
instance (a b:List D) [h:WL a] [h2:WL b]:WL (a ++ b):=⟨fun d hd=>by rcases List.mem_append.1 hd with hd|hd;exact h.w d hd;exact h2.w d hd⟩
instance (n:Nat) (d:D) [h:WR d]:WL (List.replicate n d):=⟨fun x hx=>by rw [List.eq_of_mem_replicate hx];exact h⟩
instance (n:Nat) (d:D) (a:List D) [h:WL a] [h2:WR d]:WL (a.set n d):=⟨fun x hx=>by rcases List.mem_or_eq_of_mem_set hx with hx|rfl;exact h.w x hx;exact h2⟩
class PR (d:D):Prop where
 w:gZ d
class PL (ds:List D):Prop where
 w:∀ d ∈ ds,gZ d
def vs:List D→Bool
 | []=>true
 | .v _ :: l=>vs l
 | _=>false
theorem Mz:∀ {l:List D},vs l=true→∀ c ∈ l,∃ x,c= .v x
 | .v x :: l,h,c,hc=>by
  rcases List.mem_cons.1 hc with rfl|hc
  exact ⟨x,rfl⟩
  exact Mz (l:=l) h c hc
instance (x:Value):PR (.v x):=⟨fun c hc=>by simp only [D.row,List.mem_singleton] at hc;exact ⟨x,hc⟩⟩
class WX (l:List D):Prop where
 w:vs l=true
instance:WX []:=⟨rfl⟩
instance (x:Value) (l:List D) [h:WX l]:WX (.v x :: l):=⟨h.w⟩
instance (l:List D) [h:WX l]:PR (.st l):=⟨fun c hc=>Mz h.w c hc⟩
instance:PL []:=⟨fun d hd=>by cases hd⟩
instance (d:D) (ds:List D) [h:PR d] [h2:PL ds]:PL (d :: ds):=⟨fun x hx=>by rcases List.mem_cons.1 hx with rfl|hx;exact h.w;exact h2.w x hx⟩
instance {α:Type} (f: α→D) (xs:List α) [h:∀ x,PR (f x)]:PL (xs.map f):=⟨fun d hd=>by obtain ⟨x,_,rfl⟩:=List.mem_map.1 hd;exact (h x).w⟩
instance (a b:List D) [h:PL a] [h2:PL b]:PL (a ++ b):=⟨fun d hd=>by rcases List.mem_append.1 hd with hd|hd;exact h.w d hd;exact h2.w d hd⟩
instance (n:Nat) (a:List D) [h:PL a]:PL (a.take n):=⟨fun d hd=>h.w d (List.mem_of_mem_take hd)⟩
instance (n:Nat) (a:List D) [h:PL a]:PL (a.drop n):=⟨fun d hd=>h.w d (List.mem_of_mem_drop hd)⟩
theorem ES {k:Prop} [h:PL ns] (hk:k) (hl:ds.length + ns.length ≤ 134217728:=by simp only [List.length_map,List.length_append,List.length_take,List.length_drop,List.length_cons,List.length_nil,List.length_replicate] <;> omega):ZN ds ns k:=⟨h.w,hl,hk⟩
theorem appO {k:Prop} [h:WL ns] (hk:k) (hl:ds.length + ns.length ≤ 134217728:=by simp only [List.length_map,List.length_append,List.length_take,List.length_drop,List.length_cons,List.length_nil,List.length_replicate] <;> omega):ZO ds ns k:=
 ⟨fun d hd c hc e=>(by have h9:=(h.w d hd).w c hc;subst e;cases h9),hl,hk⟩
structure eB (d:D) (k:Prop):Prop where
 h:Whole d
 c:k
def ET (rs:Rs) (c:C) (k:C→Prop):Prop:=match c with
 | .ro d=>k (.ro d)
 | .ref s=>(match s with|⟨b,p,q⟩=>kE rs b p q fun _ c=>match c with
  | .own d=>eB d (k (.ro d))
  | _=>False)
 | _=>False
def DQ (rs:Rs):List C→(List C→Prop)→Prop
 | [],k=>k []
 | c :: l,k=>ET rs c fun c=>DQ rs l fun l=>k (c :: l)
def Kc:List C→(List D→Prop)→Prop
 | [],k=>k []
 | c :: l,k=>match c with
  | .own d=>eB d (Kc l fun ds=>k (d :: ds))
  | .ro d=>Kc l fun ds=>k (d :: ds)
  | _=>False
def ZX (k:TV→Prop):List D→Prop
 | []=>False
 | d :: ds=>k (.bV (d :: ds))
def T4 (rs:Rs) (t:TV) (k:TV→Prop):Prop:=match t with
 | .ptr pl=>(match pl with|⟨b,p,q⟩=>atW rs b p fun m row=>BR m (IA row q fun l=>Kc l (ZX k)) False)
 | .c c=>BR (Wg c) (k (.c c)) False
 | .agg cs=>BR (cs.all Wg) (k (.agg cs)) False
 | _=>False
def OJ (rs:Rs):List TV→(List TV→Prop)→Prop
 | [],k=>k []
 | c :: l,k=>T4 rs c fun c=>OJ rs l fun l=>k (c :: l)
def T5 (rs:Rs) (t:TS) (k:TS→Prop):Prop:=match t with
 | .one (.c c)=>ET rs c fun c=>k (.one (.c c))
 | .one (.agg cs)=>DQ rs cs fun cs=>k (.one (.agg cs))
 | .one (.bV ds)=>k (.one (.bV ds))
 | .fn f l=>(match l with| []=>k (.fn f [])|t :: l=>OJ rs (t :: l) fun l=>k (.fn f l))
 | _=>False
def tO (rs:Rs):List TS→(List TS→Prop)→Prop
 | [],k=>k []
 | t :: l,k=>T5 rs t fun t=>tO rs l fun l=>k (t :: l)
section
variable {P:Program} {w0:World} {g0:Gh} {n:Nat} {e:List En} {rs:Rs} {o:Oper} {K:Kn}
theorem Bz {c:C} {k:C→Prop} (h:ET rs c k):∃ c',Eo (aR n e rs) c c'∧k c':=by
 unfold ET at h
 split at h
 exact ⟨_, .ro _,h⟩
 rename_i s
 obtain ⟨b,p,q⟩:=s
 simp only at h
 obtain ⟨_,c',h1,_,h2⟩:=eU (n:=n) (e:=e) h
 split at h2
 exact ⟨_, .ref h1 h2.h,h2.c⟩
 exact h2.elim
 exact h.elim
theorem yK:∀ {l:List C} {k:List C→Prop},DQ rs l k→∃ l',vi (aR n e rs) l l'∧k l'
 | [],k,h=>⟨[], .nil,h⟩
 | c :: l,k,h=>by
  obtain ⟨c',h1,h2⟩:=Bz (n:=n) (e:=e) h
  obtain ⟨l',h3,h4⟩:=yK (l:=l) h2
  exact ⟨_, .cons h1 h3,h4⟩
def Yu (st:St) (c c':TV):Prop:=(SS c=true∧c'=c) ∨ ∃ pl ds,c= .ptr pl∧c'= .bV ds∧st.gv pl=true∧0 < ds.length∧∀ (i:Nat) d,ds[i]? = some d→(st.cellAt ⟨pl.k,pl.p,pl.q + i⟩=some (.own d)∧Whole d) ∨ st.cellAt ⟨pl.k,pl.p,pl.q + i⟩=some (.ro d)
theorem BA:∀ {l:List C} {k:List D→Prop},Kc l k→∃ ds,k ds∧∀ (i:Nat) d,ds[i]? = some d→(l[i]? = some (.own d)∧Whole d) ∨ l[i]? = some (.ro d)
 | [],k,h=>⟨[],h,fun i d h=>by simp at h⟩
 | c :: l,k,h=>by
  cases c with
  | own d=>
   obtain ⟨ds,h1,h2⟩:=BA (l:=l) h.c
   refine ⟨_,h1,fun i d' hi=> ?_⟩
   cases i with
   | zero=>simp only [List.getElem?_cons_zero,Option.some.injEq] at hi ⊢;subst hi;exact .inl ⟨rfl,h.h⟩
   | succ i=>exact h2 i d' (by simpa using hi)
  | ro d=>
   obtain ⟨ds,h1,h2⟩:=BA (l:=l) h
   refine ⟨_,h1,fun i d' hi=> ?_⟩
   cases i with
   | zero=>simp only [List.getElem?_cons_zero,Option.some.injEq] at hi ⊢;subst hi;exact .inr rfl
   | succ i=>exact h2 i d' (by simpa using hi)
  | _=>exact h.elim
theorem T6 {t:TV} {k:TV→Prop} (h:T4 rs t k):∃ t',Yu (aR n e rs) t t'∧k t':=by
 unfold T4 at h
 split at h
 rename_i pl
 obtain ⟨b,p,q⟩:=pl
 simp only at h
 obtain ⟨m,row,h1,h2,h3⟩:=Ot (n:=n) (e:=e) h
 obtain ⟨rfl,h4⟩:=bG h3
 obtain ⟨ds,h5,h6⟩:=BA (vo h4)
 cases ds with
 | nil=>exact h5.elim
 | cons d ds=>
  refine ⟨.bV (d :: ds), .inr ⟨⟨b,p,q⟩,d :: ds,rfl,rfl, ?_,by simp,fun i d' hi=> ?_⟩,h5⟩
  exact h2 q
  rcases h6 i d' hi with ⟨h7,h8⟩|h7
  exact .inl ⟨by rw [h1];simpa using h7,h8⟩
  exact .inr (by rw [h1];simpa using h7)
 obtain ⟨h1,h2⟩:=bG h
 exact ⟨_, .inl ⟨h1,rfl⟩,h2⟩
 obtain ⟨h1,h2⟩:=bG h
 exact ⟨_, .inl ⟨h1,rfl⟩,h2⟩
 exact h.elim
theorem IL:∀ {l:List TV} {k:List TV→Prop},OJ rs l k→∃ l',(l'.length=l.length∧∀ (j:Nat) c c',l[j]? = some c→l'[j]? = some c'→Yu (aR n e rs) c c')∧k l'
 | [],k,h=>⟨[],⟨rfl,fun j c c' h=>by simp at h⟩,h⟩
 | c :: l,k,h=>by
  obtain ⟨c',h1,h2⟩:=T6 (n:=n) (e:=e) h
  obtain ⟨l',⟨h3,h4⟩,h5⟩:=IL (l:=l) h2
  refine ⟨c' :: l',⟨by simp [h3],fun j x x' hx hx'=> ?_⟩,h5⟩
  cases j with
  | zero=>
   simp only [List.getElem?_cons_zero,Option.some.injEq] at hx hx'
   subst hx;subst hx'
   exact h1
  | succ j=>exact h4 j x x' (by simpa using hx) (by simpa using hx')
theorem T7 {t:TS} {k:TS→Prop} (h:T5 rs t k):∃ t',xH (aR n e rs) t t'∧k t':=by
 unfold T5 at h
 split at h
 obtain ⟨c',h1,h2⟩:=Bz (n:=n) (e:=e) h
 refine ⟨_, ?_,h2⟩
 cases h1 with
 | ro d=>exact .ro d
 | ref h9 hw=>exact .Y9 h9 hw
 obtain ⟨c',h1,h2⟩:=yK (n:=n) (e:=e) h
 exact ⟨_, .aggR h1,h2⟩
 exact ⟨_, .bV _,h⟩
 split at h
 exact ⟨_, .fn _,h⟩
 obtain ⟨l',⟨h1,h2⟩,h3⟩:=IL (n:=n) (e:=e) h
 exact ⟨_, .fnP _ _ _ h1 h2,h3⟩
 exact h.elim
theorem nO:∀ {l:List TS} {k:List TS→Prop},tO rs l k→∃ l',rD (aR n e rs) l l'∧k l'
 | [],k,h=>⟨[], .nil,h⟩
 | c :: l,k,h=>by
  obtain ⟨c',h1,h2⟩:=T7 (n:=n) (e:=e) h
  obtain ⟨l',h3,h4⟩:=nO (l:=l) h2
  exact ⟨_, .cons h1 h3,h4⟩
end
structure uG (m:Bool) (P:Program) (w0:World) (g0:Gh) (n:Nat) (e:List En) (rs:Rs) (f:FuncId) (ts:List TS) (dst:Option Nat) (K:Kn):Prop where
 h:∀ (o:Oper) (cx:Operand) (args:List Operand) (nL:Array TypeId),o.op= .call { callee:= .value cx,args:=args.toArray,argTypes:=nL }→T.cy 0 (aR n e rs) cx=some (.fn f [])→o.dst=dst→
  jI (aR n e rs) args=some ts→WO m P w0 g0 o (aR n e rs) (Lg n K)
def dK (P : Program) (f : FuncId) : Prop := ∃ fn, P.funcs[f]? = some fn ∧ fn.body.isNone = false ∧ (fn.name == "runtime.NumGoroutine") = false
theorem dK.mk {P : Program} {f : FuncId} {fn : Func} (h1 : P.funcs[f]? = some fn) (h2 : fn.body.isNone = false) (h3 : (fn.name == "runtime.NumGoroutine") = false) : dK P f := ⟨fn, h1, h2, h3⟩
section
variable {P:Program} {w0:World} {g0:Gh} {n:Nat} {e:List En} {rs:Rs} {K:Kn} {m:Bool} {f:FuncId} {ts pts:List TS} {d:Nat}
theorem ah {t:TS} {x:Value} (hc:xI P w0 g0 f pts (RP t)) (hk:K (.set d t :: e) rs) 
  (hs:tO rs ts fun l=>l=pts:=by (repeat first|exact rfl|refine eB.mk (by first|exact WD.w|assumption) ?_|refine xT (by assumption) ?_|refine aI (by assumption) ?_);done)
  (hp:oG t=some x:=by exact rfl) (hf:dK P f:=by exact .mk rfl rfl rfl):uG m P w0 g0 n e rs f ts (some d) K:=⟨fun o cx args nL ho lA hd hx=>by
 obtain ⟨fn,h1,h2,h3⟩:=hf
 obtain ⟨l,h4,rfl⟩:=nO (n:=n) (e:=e) hs
 refine .of (rq.P5 ho lA h1 h2 h3 hx hc h4 hp rfl ?_)
 rw [hd]
 exact .put hk⟩
theorem bk {sz:Nat} (hc:xI P w0 g0 f pts (RL sz ds)) (hk:sc d false [.own (.sl sz ds)] e rs fun e rs=>K (.set d (.one (.c (.ref ⟨d,[],0⟩))) :: e) rs) 
  (hs:tO rs ts fun l=>l=pts:=by (repeat first|exact rfl|refine eB.mk (by first|exact WD.w|assumption) ?_|refine xT (by assumption) ?_|refine aI (by assumption) ?_);done)
  (hf:dK P f:=by exact .mk rfl rfl rfl):uG m P w0 g0 n e rs f ts (some d) K:=⟨fun o cx args nL ho lA hd hx=>by
 obtain ⟨fn,h1,h2,h3⟩:=hf
 obtain ⟨l,h4,rfl⟩:=nO (n:=n) (e:=e) hs
 obtain ⟨h5,h6⟩:=sX (n:=n) hk
 exact .of (rq.bk ho lA h1 h2 h3 hd hx hc h4 h6 h5)⟩
theorem ak {l:List RD} (hc:xI P w0 g0 f pts (RG l)) (hk:kv (ez l) fun row=>EP row fun cs=>sc d false cs e rs fun e rs=>mw (nx (rE d 0 l)) fun t=>K (.set d t :: e) rs) 
  (hs:tO rs ts fun l=>l=pts:=by (repeat first|exact rfl|refine eB.mk (by first|exact WD.w|assumption) ?_|refine xT (by assumption) ?_|refine aI (by assumption) ?_);done)
  (hok:(ez l).all Su=true:=by exact rfl) (hf:dK P f:=by exact .mk rfl rfl rfl):uG m P w0 g0 n e rs f ts (some d) K:=⟨fun o cx args nL ho lA hd hx=>by
 obtain ⟨fn,h1,h2,h3⟩:=hf
 obtain ⟨l',h4,rfl⟩:=nO (n:=n) (e:=e) hs
 obtain ⟨h5,e',fq,h6,h7⟩:=wN (n:=n) (oe (fM.1 hk))
 refine .of (rq.ak ho lA h1 h2 h3 hd hx hc h4 hok ?_ h5)
 rw [h6]
 exact .put (fZ.1 h7)⟩
end
structure MA (m:Bool) (P:Program) (w0:World) (g0:Gh) (n:Nat) (e:List En) (rs:Rs) (f:FuncId) (ts:List TS) (fk:List TV) (dst:Option Nat) (K:Kn):Prop where
 h:∀ (o:Oper) (cx:Operand) (args:List Operand) (nL:Array TypeId),o.op= .call { callee:= .value cx,args:=args.toArray,argTypes:=nL }→T.cy 0 (aR n e rs) cx=some (.fn f fk)→o.dst=dst→
  jI (aR n e rs) args=some ts→WO m P w0 g0 o (aR n e rs) (Lg n K)
section
variable {P:Program} {w0:World} {g0:Gh} {n:Nat} {e:List En} {rs:Rs} {K:Kn} {m:Bool} {f:FuncId} {ts pts:List TS} {fk:List TV} {d:Nat}
theorem T8 {t:TS} {x:Value} (hc:xI P w0 g0 f pts (RP t)) (hk:K (.set d t :: e) rs) 
  (hs:tO rs (ts ++ fk.map TS.one) fun l=>l=pts:=by (repeat first|exact rfl|refine eB.mk (by first|exact WD.w|assumption) ?_|refine xT (by assumption) ?_|refine aI (by assumption) ?_);done)
  (hp:oG t=some x:=by exact rfl) (hf:dK P f:=by exact .mk rfl rfl rfl):MA m P w0 g0 n e rs f ts fk (some d) K:=⟨fun o cx args nL ho lA hd hx=>by
 obtain ⟨fn,h1,h2,h3⟩:=hf
 obtain ⟨l,h4,rfl⟩:=nO (n:=n) (e:=e) hs
 refine .of (rq.Zr ho lA h1 h2 h3 hx hc h4 hp rfl ?_)
 rw [hd]
 exact .put hk⟩
theorem OK {l:List RD} (hc:xI P w0 g0 f pts (RG l)) (hk:kv (ez l) fun row=>EP row fun cs=>sc d false cs e rs fun e rs=>mw (nx (rE d 0 l)) fun t=>K (.set d t :: e) rs) 
  (hs:tO rs (ts ++ fk.map TS.one) fun l=>l=pts:=by (repeat first|exact rfl|refine eB.mk (by first|exact WD.w|assumption) ?_|refine xT (by assumption) ?_|refine aI (by assumption) ?_);done)
  (hok:(ez l).all Su=true:=by exact rfl) (hf:dK P f:=by exact .mk rfl rfl rfl):MA m P w0 g0 n e rs f ts fk (some d) K:=⟨fun o cx args nL ho lA hd hx=>by
 obtain ⟨fn,h1,h2,h3⟩:=hf
 obtain ⟨l',h4,rfl⟩:=nO (n:=n) (e:=e) hs
 obtain ⟨h5,e',fq,h6,h7⟩:=wN (n:=n) (oe (fM.1 hk))
 refine .of (rq.Zs ho lA h1 h2 h3 hd hx h4 hc hok ?_ h5)
 rw [h6]
 exact .put (fZ.1 h7)⟩
end
def T9 (m:Bool) (P:Program) (w0:World) (g0:Gh) (n:Nat) (c:Call) (dst:Option Nat) (e:List En) (rs:Rs) (K:Kn):Prop:=match c with
 | ⟨cl,as,ts⟩=>(match cl with
  | .value cx=>fT n e 0 cx fun t=>(match t with
   | .fn f l=>(match l with
    | []=>(match as with|⟨as⟩=>Ix n e as fun ts=>uG m P w0 g0 n e rs f ts dst K)
    | t :: l=>(match as with|⟨as⟩=>Ix n e as fun ts=>MA m P w0 g0 n e rs f ts (t :: l) dst K))
   | _=>False)
  | _=>False)
def yL:Operand→Bool
 | .const v=>(match v with| .slice none 0 0=>true|_=>false)
 | _=>false
def Ae (P:Program) (k:Nat) (ty:TypeId) (e:List En) (rs:Rs) (K:Kn):Prop:=match P.underlying ty with
 | some (.slice el)=>rF P el fun sz=>J6 [k] k sz [] e rs K
 | _=>False
def Qi (P:Program) (n k:Nat) (dst:Option Nat) (t:TypeId) (x:Operand) (e:List En) (rs:Rs) (K:Kn):Prop:=fT n e 0 x fun a=>match a with
 | .one (.ptr pl)=>(match pl with
  | ⟨b,p,q⟩=>(match p with
   | []=>rF P t fun s=>BR (Nat.beq s 1) (kE rs b [] q fun m _=>BR m (tM b [] q (.ref ⟨k,[],0⟩) e rs fun e rs=>lB dst (.one .dead) e rs K) False) False
   | _ :: _=>False))
 | _=>False
def BB (P:Program) (n:Nat) (dst:Option Nat) (t:TypeId) (x:Operand) (e:List En) (rs:Rs) (K:Kn):Prop:=match P.underlying t with
 | some (.slice el)=>rF P el fun sz=>J5 [999999] 999999 [.own (.sl sz [])] e rs fun e rs=>Qi P n 999999 dst t x e rs K
 | _=>False
section
variable {P:Program} {w0:World} {g0:Gh} {n:Nat} {e:List En} {rs:Rs} {o:Oper} {K:Kn}
inductive T_ (ds ns:List D) (lo len:Nat) (k:Nat→List D→Prop):Prop
 | mk (n:Nat) (l:List D) (hds:∀ d ∈ ds,gZ d) (hns:∀ d ∈ ns,gZ d) (hn:n=Nat.min ns.length len) (h0:0 < n) (he:l=ds.take lo ++ ns.take n ++ ds.drop (lo + n)) (c:k n l)
def Ke (P:Program) (n:Nat) (dst:Option Nat) (y:Operand) (el:TypeId) (k lo:Nat) (zh:Option (Nat×Nat)) (e:List En) (rs:Rs) (K:Kn):Prop:=Mx rs k fun sz ds=>rF P el fun s=>BR (Nat.beq sz s)
 (fT n e 0 y fun tv=>EB rs tv fun sz' ns=>BR (Nat.beq sz' sz) (match zh with
  | none=>T_ ds ns 0 ds.length fun m l=>zY k sz l e rs fun e rs=>lB dst (I m) e rs K
  | some x=>(match x with|(z,hi)=>BR (Nat.beq z sz) (T_ ds ns lo (hi - lo) fun m l=>zY k sz l e rs fun e rs=>lB dst (I m) e rs K) False)) False) False
def Ua (P:Program) (n:Nat) (dst:Option Nat) (x y:Operand) (t:TypeId) (e:List En) (rs:Rs) (K:Kn):Prop:=match P.underlying t with
 | some (.slice el)=>fT n e 0 x fun td=>(match td with
  | .one (.c (.ref pl))=>(match pl with|⟨k,p,q⟩=>BR (p.isEmpty && Nat.beq q 0) (Ke P n dst y el k 0 none e rs K) False)
  | .one (.cut pl z lo hi)=>(match pl with|⟨k,p,q⟩=>BR (p.isEmpty && Nat.beq q 0) (Ke P n dst y el k lo (some (z,hi)) e rs K) False)
  | _=>False)
 | _=>False
theorem EU {el:TypeId} (ho:o.op= .call { callee:= .builtin .copy,args:= #[x,y],argTypes:= #[t,t2] }) (hu:P.underlying t=some (.slice el)) {td:TS} (hx:T.cy 0 (aR n e rs) x=some td) {lo:Nat} {zh:Option (Nat×Nat)} 
  (htd:(zh=none∧lo=0∧td= .one (.c (.ref ⟨k,[],0⟩))) ∨ ∃ z hi,zh=some (z,hi)∧td= .one (.cut ⟨k,[],0⟩ z lo hi)) (h:Ke P n o.dst y el k lo zh e rs K):fX P w0 g0 o (aR n e rs) (Lg n K):=by
 obtain ⟨sz,ds,h1,h2⟩:=Ad (n:=n) (e:=e) h
 obtain ⟨s,h3,h4⟩:=j5 h2
 obtain ⟨h5,h6⟩:=bG h4
 have h5:=Nat.eq_of_beq_eq_true h5
 subst h5
 obtain ⟨tv,h7,h8⟩:=bR (rs:=rs) h6
 obtain ⟨sz',ns,h9,kU⟩:=sV (n:=n) (e:=e) h8
 obtain ⟨oW,h12⟩:=bG kU
 have oW:=Nat.eq_of_beq_eq_true oW
 subst oW
 have fin:∀ {lo len:Nat},Tl ds td=some (k,lo,len)→(∀ pl z i j,td= .one (.cut pl z i j)→z=sz')→(T_ ds ns lo len fun m l=>zY k sz' l e rs fun e rs=>lB o.dst (I m) e rs K)→fX P w0 g0 o (aR n e rs) (Lg n K):=fun hd hz hc=>by
  obtain ⟨m,l,hds,hns,hm,h0,rfl,hc⟩:=hc
  obtain ⟨hkp,e2,IK,NT,hk2⟩:=Mq (n:=n) hc
  refine .copy ho hx h7 h1 hd hz h9 hds hns hu h3 hm h0 hkp ?_
  rw [NT]
  exact fR hk2
 rcases htd with ⟨rfl,rfl,rfl⟩|⟨z,hi,rfl,rfl⟩
 exact fin rfl (fun pl z i j h=>by cases h) h12
 obtain ⟨pL,sW⟩:=bG h12
 exact fin rfl (fun pl z' i j h=>by cases h;exact Nat.eq_of_beq_eq_true pL) sW
theorem Ub (ho:o.op= .call { callee:= .builtin .copy,args:= #[x,y],argTypes:= #[t,t2] }) (h:Ua P n o.dst x y t e rs K):fX P w0 g0 o (aR n e rs) (Lg n K):=by
 unfold Ua at h
 split at h
 rename_i el hu
 obtain ⟨td,h1,h2⟩:=bR (rs:=rs) h
 split at h2
 rename_i pl
 obtain ⟨k,p,q⟩:=pl
 obtain ⟨h3,h4⟩:=bG h2
 simp only [Bool.and_eq_true,List.isEmpty_iff] at h3
 obtain ⟨rfl,h3⟩:=h3
 have h3:=Nat.eq_of_beq_eq_true h3
 subst h3
 exact EU ho hu h1 (.inl ⟨rfl,rfl,rfl⟩) h4
 rename_i pl z lo hi
 obtain ⟨k,p,q⟩:=pl
 obtain ⟨h3,h4⟩:=bG h2
 simp only [Bool.and_eq_true,List.isEmpty_iff] at h3
 obtain ⟨rfl,h3⟩:=h3
 have h3:=Nat.eq_of_beq_eq_true h3
 subst h3
 exact EU ho hu h1 (.inr ⟨z,hi,rfl,rfl⟩) h4
 exact h2.elim
 exact h.elim
end
def pF (m:Bool) (P:Program) (w0:World) (g0:Gh) (n:Nat) (o:Oper) (e:List En) (rs:Rs) (K:Kn):Prop:=match o with
 | ⟨dst,op,ty,_,_,_⟩=>(match op with
  | .call c=>(match c with
   | ⟨cl,as,ts⟩=>(match cl with
    | .builtin b=>(match b with
     | .append=>BR m False (match as with|⟨as⟩=>(match ts with|⟨ts⟩=>(match as,ts with
      | [x,y],[t,t2]=>J_ dst fun k=>Qh P n k x y t t2 e rs K
      | _,_=>False)))
     | .copy=>BR m False (match as with|⟨as⟩=>(match ts with|⟨ts⟩=>(match as,ts with
      | [x,y],[t,t2]=>Ua P n dst x y t e rs K
      | _,_=>False)))
     | _=>BR m False (C1 P n e rs (.call ⟨.builtin b,as,ts⟩) fun t=>lB dst t e rs K))
    | _=>T9 m P w0 g0 n ⟨cl,as,ts⟩ dst e rs K))
  | .buildSlice t len parts=>J_ dst fun k=>EI P n e rs k t len parts.toList K
  | .box t x=>BR m False (J_ dst fun k=>boxW P n e rs k t x K)
  | .alloc t=>BR m False (J_ dst fun k=>TN P k t e rs K)
  | .makeSlice t x y=>BR m False (J_ dst fun k=>TO P n e rs k t x y K)
  | .build t parts=>BR m False (J_ dst fun k=>T1 P n k t parts.toList e rs K)
  | .store t x y=>BR m False (BR (yL y) (BB P n dst t x e rs K) (T3 P n dst t x y e rs K))
  | .move x=>BR m False (BR (yL x) (J_ dst fun k=>Ae P k ty e rs K) (C1 P n e rs (.move x) fun t=>lB dst t e rs K))
  | .assign x=>BR m False (BR (yL x) (J_ dst fun k=>Ae P k ty e rs K) (C1 P n e rs (.assign x) fun t=>lB dst t e rs K))
  | op=>BR m False (C1 P n e rs op fun t=>lB dst t e rs K))
section
variable {P:Program} {w0:World} {g0:Gh} {n:Nat} {e:List En} {rs:Rs} {o:Oper} {K:Kn} {m:Bool}
theorem Uc {c:Call} (ho:o.op= .call c) (h:T9 m P w0 g0 n c o.dst e rs K):WO m P w0 g0 o (aR n e rs) (Lg n K):=by
 obtain ⟨cl,⟨as⟩,ts⟩:=c
 unfold T9 at h
 simp only at h
 split at h
 obtain ⟨t,h1,h2⟩:=bR (rs:=rs) h
 split at h2
 split at h2
 obtain ⟨ts,h3,h4⟩:=vn (rs:=rs) h2
 exact h4.h o _ as _ ho h1 rfl h3
 obtain ⟨ts,h3,h4⟩:=vn (rs:=rs) h2
 exact h4.h o _ as _ ho h1 rfl h3
 exact h2.elim
 exact h.elim
theorem BC (h:yL x=true):x= .const (.slice none 0 0):=by
 unfold yL at h
 split at h
 split at h
 rfl
 cases h
 cases h
theorem Cx {ty:TypeId} (ho:o.op= .move (.const (.slice none 0 0)) ∨ o.op= .assign (.const (.slice none 0 0))) (hd:o.dst=some k) (h:Ae P k ty e rs K):fX P w0 g0 o (aR n e rs) (Lg n K):=by
 unfold Ae at h
 split at h
 obtain ⟨sz,h1,h2⟩:=j5 h
 obtain ⟨h3,h4⟩:=wO (n:=n) h2
 exact .Wo ho hd sz h4 h3
 exact h.elim
theorem Kf (ho:o.op= .store t x (.const (.slice none 0 0))) (h:BB P n o.dst t x e rs K):fX P w0 g0 o (aR n e rs) (Lg n K):=by
 unfold BB at h
 split at h
 obtain ⟨sz,h1,h2⟩:=j5 h
 obtain ⟨hk,e1,Yv,h3,h4⟩:=Bw (n:=n) h2
 unfold Qi at h4
 obtain ⟨a,h5,h6⟩:=bR (rs:=Yv) h4
 split at h6
 rename_i pl
 obtain ⟨b,p,q⟩:=pl
 simp only at h6
 split at h6
 obtain ⟨s,h7,h8⟩:=j5 h6
 obtain ⟨h9,kU⟩:=bG h8
 have h9:=Nat.eq_of_beq_eq_true h9
 subst h9
 obtain ⟨m,c0,oW,h12,pL⟩:=eU (n:=n) (e:=e1) kU
 obtain ⟨rfl,vc⟩:=bG pL
 obtain ⟨bD,sW,e',fq,II,LJ⟩:=qE (n:=n) vc
 subst II
 refine .S5 (k:=999999) ho sz (by rw [h3];exact h5) h7 (by rw [h3];exact oW) (by rw [h3];exact h12) (by rw [h3];exact sW) (fR LJ) hk
 exact h6.elim
 exact h6.elim
 exact h.elim
theorem DR (h:C1 P n e rs o.op fun t=>lB o.dst t e rs K):fX P w0 g0 o (aR n e rs) (Lg n K):=by
 obtain ⟨t,h1,h2⟩:=DO (w0:=w0) (g0:=g0) h
 exact .val h1 (fR h2)
theorem jq (h:pF m P w0 g0 n o e rs K):WO m P w0 g0 o (aR n e rs) (Lg n K):=by
 obtain ⟨dst,op,ty,pos,af,gd⟩:=o
 have hT:∀ {A:Prop},BR m False A→(A→fX P w0 g0 ⟨dst,op,ty,pos,af,gd⟩ (aR n e rs) (Lg n K))→WO m P w0 g0 ⟨dst,op,ty,pos,af,gd⟩ (aR n e rs) (Lg n K):=fun h1 h2=>by
  obtain ⟨rfl,h3⟩:=pE h1
  exact h2 h3
 unfold pF at h
 simp only at h
 split at h
 rename_i c
 obtain ⟨cl,as,ts⟩:=c
 simp only at h
 split at h
 split at h
 refine hT h fun h=> ?_
 obtain ⟨as⟩:=as
 obtain ⟨ts⟩:=ts
 simp only at h
 split at h
 obtain ⟨k,h1,h2⟩:=rG h
 exact OI rfl h1 h2
 exact h.elim
 refine hT h fun h=> ?_
 obtain ⟨as⟩:=as
 obtain ⟨ts⟩:=ts
 simp only at h
 split at h
 exact Ub rfl h
 exact h.elim
 exact hT h fun h=>DR h
 exact Uc rfl h
 obtain ⟨k,h1,h2⟩:=rG h
 exact Mv rfl h1 h2
 refine hT h fun h=> ?_
 obtain ⟨k,h1,h2⟩:=rG h
 exact WQ rfl h1 h2
 refine hT h fun h=> ?_
 obtain ⟨k,h1,h2⟩:=rG h
 exact RB rfl h1 h2
 refine hT h fun h=> ?_
 obtain ⟨k,h1,h2⟩:=rG h
 exact TP rfl h1 h2
 refine hT h fun h=> ?_
 obtain ⟨k,h1,h2⟩:=rG h
 exact RJ rfl h1 h2
 refine hT h fun h=> ?_
 rcases fY.1 h with ⟨h1,h2⟩|⟨h1,h2⟩
 exact Kf (by rw [BC h1]) h2
 exact RK rfl h2
 refine hT h fun h=> ?_
 rcases fY.1 h with ⟨h1,h2⟩|⟨h1,h2⟩
 obtain ⟨k,h3,h4⟩:=rG h2
 exact Cx (.inl (by rw [BC h1])) h3 h4
 exact DR h2
 refine hT h fun h=> ?_
 rcases fY.1 h with ⟨h1,h2⟩|⟨h1,h2⟩
 obtain ⟨k,h3,h4⟩:=rG h2
 exact Cx (.inr (by rw [BC h1])) h3 h4
 exact DR h2
 exact hT h fun h=>DR h
end
end
end Go.Proofs.YtdliggkohdnipaaGreat.T
