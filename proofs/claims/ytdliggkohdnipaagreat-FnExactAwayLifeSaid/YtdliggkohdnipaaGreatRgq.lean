import Derived.Test.YtdliggkohdnipaaGreatRfq
set_option linter.unusedVariables false
set_option linter.unusedSimpArgs false
namespace Go.Proofs.YtdliggkohdnipaaGreat.T
open Go
section
variable {ds ns:List D} {k:Nat} {x y:Operand} {t t2:TypeId}
theorem aL {α:Type} {f: α→D} {xs:List α} {m:Nat} {y: α} {k:D→Prop} (hy:xs[m]? = some y) (c:k (f y)): @Option.rec D (fun _=>Prop) False k ((xs.map f)[m]?):=Ax (by rw [ec,hy];rfl) c
class WR (d:D):Prop where
 w:∀ c ∈ d.row,Whole c
class WD (d:D):Prop where
 w:Whole d
class WL (ds:List D):Prop where
 w:∀ d ∈ ds,WR d
class WDs (ds:List D):Prop where
 w:∀ d ∈ ds,Whole d
instance (x:Value):WD (.v x):=⟨.v x⟩
instance (sz:Nat) (ds:List D) [h:WL ds]:WD (.sl sz ds):=⟨.sl sz ds fun d hd c hc=>(h.w d hd).w c hc⟩
instance:WDs []:=⟨fun d hd=>by cases hd⟩
instance (d:D) (ds:List D) [h:WD d] [h2:WDs ds]:WDs (d :: ds):=⟨fun x hx=>by rcases m8.1 hx with rfl|hx;exact h.w;exact h2.w x hx⟩
instance (x:Value):WR (.v x):=⟨fun c hc=>by simp only [D.row,o5] at hc;subst hc;exact .v x⟩
instance (sz:Nat) (ds:List D) [h:WD (.sl sz ds)]:WR (.sl sz ds):=⟨fun c hc=>by simp only [D.row,o5] at hc;subst hc;exact h.w⟩
instance (ds:List D) [h:WDs ds]:WR (.st ds):=⟨fun c hc=>h.w c hc⟩
instance:WL []:=⟨fun d hd=>by cases hd⟩
instance (d:D) (ds:List D) [h:WR d] [h2:WL ds]:WL (d :: ds):=⟨fun x hx=>by rcases m8.1 hx with rfl|hx;exact h;exact h2.w x hx⟩
instance {α:Type} (f: α→D) (xs:List α) [h:∀ x,WR (f x)]:WL (xs.map f):=⟨fun d hd=>by obtain ⟨x,_,rfl⟩:=j7.1 hd;exact h x⟩
instance (a b:List D) [h:WL a] [h2:WL b]:WL (a ++ b):=⟨fun d hd=>by rcases xa.1 hd with hd|hd;exact h.w d hd;exact h2.w d hd⟩
instance (n:Nat) (d:D) [h:WR d]:WL (List.replicate n d):=⟨fun x hx=>by rw [List.eq_of_mem_replicate hx];exact h⟩
instance (n:Nat) (d:D) (a:List D) [h:WL a] [h2:WR d]:WL (a.set n d):=⟨fun x hx=>by rcases lN hx with hx|rfl;exact h.w x hx;exact h2⟩
class PR (d:D):Prop where
 w:iI d
class PL (ds:List D):Prop where
 w:∀ d ∈ ds,iI d
def vs:List D→Bool
 | []=>true
 | .v _ :: l=>vs l
 | _=>false
theorem N5:∀ {l:List D},vs l=true→∀ c ∈ l,∃ x,c= .v x
 | .v x :: l,h,c,hc=>by
  rcases m8.1 hc with rfl|hc
  exact ⟨x,rfl⟩
  exact N5 (l:=l) h c hc
instance (x:Value):PR (.v x):=⟨fun c hc=>by simp only [D.row,o5] at hc;exact ⟨x,hc⟩⟩
class Yy (l:List D):Prop where
 w:vs l=true
instance:Yy []:=⟨rfl⟩
instance (x:Value) (l:List D) [h:Yy l]:Yy (.v x :: l):=⟨h.w⟩
instance (l:List D) [h:Yy l]:PR (.st l):=⟨fun c hc=>N5 h.w c hc⟩
instance:PL []:=⟨fun d hd=>by cases hd⟩
instance (d:D) (ds:List D) [h:PR d] [h2:PL ds]:PL (d :: ds):=⟨fun x hx=>by rcases m8.1 hx with rfl|hx;exact h.w;exact h2.w x hx⟩
instance {α:Type} (f: α→D) (xs:List α) [h:∀ x,PR (f x)]:PL (xs.map f):=⟨fun d hd=>by obtain ⟨x,_,rfl⟩:=j7.1 hd;exact (h x).w⟩
instance (a b:List D) [h:PL a] [h2:PL b]:PL (a ++ b):=⟨fun d hd=>by rcases xa.1 hd with hd|hd;exact h.w d hd;exact h2.w d hd⟩
instance (n:Nat) (a:List D) [h:PL a]:PL (a.take n):=⟨fun d hd=>h.w d (List.mem_of_mem_take hd)⟩
instance (n:Nat) (a:List D) [h:PL a]:PL (a.drop n):=⟨fun d hd=>h.w d (List.mem_of_mem_drop hd)⟩
instance (n:Nat) (d:D) [h:PR d]:PL (List.replicate n d):=⟨fun x hx=>by rw [List.eq_of_mem_replicate hx];exact h.w⟩
theorem Gt {k:Prop} [h:PL ns] (hk:k) (hl:ds.length + ns.length ≤ 134217728:=by simp only [aI,o4,e_,List.length_drop,List.length_cons,List.length_nil,List.length_replicate] <;> omega):AppP ds ns k:=⟨h.w,hl,hk⟩
theorem appO {k:Prop} [h:WL ns] (hk:k) (hl:ds.length + ns.length ≤ 134217728:=by simp only [aI,o4,e_,List.length_drop,List.length_cons,List.length_nil,List.length_replicate] <;> omega):AppO ds ns k:=
 ⟨fun d hd c hc e=>(by have h9:=(h.w d hd).w c hc;subst e;cases h9),hl,hk⟩
structure fi (d:D) (k:Prop):Prop where
 h:Whole d
 c:k
def Gu (rs:Rs) (c:C) (k:C→Prop):Prop:=match c with
 | .ro d=>k (.ro d)
 | .ref s=>(match s with|⟨b,p,q⟩=>lP rs b p q fun _ c=>match c with
  | .own d=>fi d (k (.ro d))
  | _=>False)
 | _=>False
def Fq (rs:Rs):List C→(List C→Prop)→Prop
 | [],k=>k []
 | c :: l,k=>Gu rs c fun c=>Fq rs l fun l=>k (c :: l)
def LO:List C→(List D→Prop)→Prop
 | [],k=>k []
 | c :: l,k=>match c with
  | .own d=>fi d (LO l fun ds=>k (d :: ds))
  | .ro d=>LO l fun ds=>k (d :: ds)
  | _=>False
def capNeW (k:TV→Prop):List D→Prop
 | []=>False
 | d :: ds=>k (.b9 (d :: ds))
def VP (rs:Rs) (t:TV) (k:TV→Prop):Prop:=match t with
 | .ptr pl=>(match pl with|⟨b,p,q⟩=>atW rs b p fun m row=>BR m (Ka row q fun l=>LO l (capNeW k)) False)
 | .c c=>BR (XX c) (k (.c c)) False
 | .agg cs=>BR (cs.all XX) (k (.agg cs)) False
 | _=>False
def Qk (rs:Rs):List TV→(List TV→Prop)→Prop
 | [],k=>k []
 | c :: l,k=>VP rs c fun c=>Qk rs l fun l=>k (c :: l)
def VQ (rs:Rs) (t:TS) (k:TS→Prop):Prop:=match t with
 | .one (.c c)=>Gu rs c fun c=>k (.one (.c c))
 | .one (.agg cs)=>Fq rs cs fun cs=>k (.one (.agg cs))
 | .one (.b9 ds)=>k (.one (.b9 ds))
 | .fn f l=>(match l with| []=>k (.fn f [])|t :: l=>Qk rs (t :: l) fun l=>k (.fn f l))
 | _=>False
def vt (rs:Rs):List TS→(List TS→Prop)→Prop
 | [],k=>k []
 | t :: l,k=>VQ rs t fun t=>vt rs l fun l=>k (t :: l)
section
variable {P:Program} {w0:World} {g0:Gh} {n:Nat} {e:List En} {rs:Rs} {o:Oper} {K:Kn}
theorem CQ {c:C} {k:C→Prop} (h:Gu rs c k):∃ c',FY (aZ n e rs) c c'∧k c':=by
 unfold Gu at h
 split at h
 exact ⟨_, .ro _,h⟩
 rename_i s
 obtain ⟨b,p,q⟩:=s
 simp only at h
 obtain ⟨_,c',h1,_,h2⟩:=fF (n:=n) (e:=e) h
 split at h2
 exact ⟨_, .ref h1 h2.h,h2.c⟩
 exact h2.elim
 exact h.elim
theorem Az:∀ {l:List C} {k:List C→Prop},Fq rs l k→∃ l',xf (aZ n e rs) l l'∧k l'
 | [],k,h=>⟨[], .nil,h⟩
 | c :: l,k,h=>by
  obtain ⟨c',h1,h2⟩:=CQ (n:=n) (e:=e) h
  obtain ⟨l',h3,h4⟩:=Az (l:=l) h2
  exact ⟨_, .cons h1 h3,h4⟩
def CapOk (st:St) (c c':TV):Prop:=(UL c=true∧c'=c) ∨ ∃ pl ds,c= .ptr pl∧c'= .b9 ds∧st.g_ pl=true∧0 < ds.length∧∀ (i:Nat) d,ds[i]? = some d→(st.cellAt ⟨pl.k,pl.p,pl.q + i⟩=some (.own d)∧Whole d) ∨ st.cellAt ⟨pl.k,pl.p,pl.q + i⟩=some (.ro d)
theorem CR:∀ {l:List C} {k:List D→Prop},LO l k→∃ ds,k ds∧∀ (i:Nat) d,ds[i]? = some d→(l[i]? = some (.own d)∧Whole d) ∨ l[i]? = some (.ro d)
 | [],k,h=>⟨[],h,fun i d h=>by simp at h⟩
 | c :: l,k,h=>by
  cases c with
  | own d=>
   obtain ⟨ds,h1,h2⟩:=CR (l:=l) h.c
   refine ⟨_,h1,fun i d' hi=> ?_⟩
   cases i with
   | zero=>simp only [List.getElem?_cons_zero,ea] at hi ⊢;subst hi;exact .inl ⟨rfl,h.h⟩
   | succ i=>exact h2 i d' (by simpa using hi)
  | ro d=>
   obtain ⟨ds,h1,h2⟩:=CR (l:=l) h
   refine ⟨_,h1,fun i d' hi=> ?_⟩
   cases i with
   | zero=>simp only [List.getElem?_cons_zero,ea] at hi ⊢;subst hi;exact .inr rfl
   | succ i=>exact h2 i d' (by simpa using hi)
  | _=>exact h.elim
theorem VR {t:TV} {k:TV→Prop} (h:VP rs t k):∃ t',CapOk (aZ n e rs) t t'∧k t':=by
 unfold VP at h
 split at h
 rename_i pl
 obtain ⟨b,p,q⟩:=pl
 simp only at h
 obtain ⟨m,row,h1,h2,h3⟩:=P6 (n:=n) (e:=e) h
 obtain ⟨rfl,h4⟩:=bQ h3
 obtain ⟨ds,h5,h6⟩:=CR (xm h4)
 cases ds with
 | nil=>exact h5.elim
 | cons d ds=>
  refine ⟨.b9 (d :: ds), .inr ⟨⟨b,p,q⟩,d :: ds,rfl,rfl, ?_,by simp,fun i d' hi=> ?_⟩,h5⟩
  exact h2 q
  rcases h6 i d' hi with ⟨h7,h8⟩|h7
  exact .inl ⟨by rw [h1];simpa using h7,h8⟩
  exact .inr (by rw [h1];simpa using h7)
 obtain ⟨h1,h2⟩:=bQ h
 exact ⟨_, .inl ⟨h1,rfl⟩,h2⟩
 obtain ⟨h1,h2⟩:=bQ h
 exact ⟨_, .inl ⟨h1,rfl⟩,h2⟩
 exact h.elim
theorem Kl:∀ {l:List TV} {k:List TV→Prop},Qk rs l k→∃ l',(l'.length=l.length∧∀ (j:Nat) c c',l[j]? = some c→l'[j]? = some c'→CapOk (aZ n e rs) c c')∧k l'
 | [],k,h=>⟨[],⟨rfl,fun j c c' h=>by simp at h⟩,h⟩
 | c :: l,k,h=>by
  obtain ⟨c',h1,h2⟩:=VR (n:=n) (e:=e) h
  obtain ⟨l',⟨h3,h4⟩,h5⟩:=Kl (l:=l) h2
  refine ⟨c' :: l',⟨by simp [h3],fun j x x' hx hx'=> ?_⟩,h5⟩
  cases j with
  | zero=>
   simp only [List.getElem?_cons_zero,ea] at hx hx'
   subst hx;subst hx'
   exact h1
  | succ j=>exact h4 j x x' (by simpa using hx) (by simpa using hx')
theorem VS {t:TS} {k:TS→Prop} (h:VQ rs t k):∃ t',zo (aZ n e rs) t t'∧k t':=by
 unfold VQ at h
 split at h
 obtain ⟨c',h1,h2⟩:=CQ (n:=n) (e:=e) h
 refine ⟨_, ?_,h2⟩
 cases h1 with
 | ro d=>exact .ro d
 | ref h9 hw=>exact .ownRef h9 hw
 obtain ⟨c',h1,h2⟩:=Az (n:=n) (e:=e) h
 exact ⟨_, .aggR h1,h2⟩
 exact ⟨_, .b9 _,h⟩
 split at h
 exact ⟨_, .fn _,h⟩
 obtain ⟨l',⟨h1,h2⟩,h3⟩:=Kl (n:=n) (e:=e) h
 exact ⟨_, .fnP _ _ _ h1 h2,h3⟩
 exact h.elim
theorem o9:∀ {l:List TS} {k:List TS→Prop},vt rs l k→∃ l',uz (aZ n e rs) l l'∧k l'
 | [],k,h=>⟨[], .nil,h⟩
 | c :: l,k,h=>by
  obtain ⟨c',h1,h2⟩:=VS (n:=n) (e:=e) h
  obtain ⟨l',h3,h4⟩:=o9 (l:=l) h2
  exact ⟨_, .cons h1 h3,h4⟩
end
structure wi (m:Bool) (P:Program) (w0:World) (g0:Gh) (n:Nat) (e:List En) (rs:Rs) (f:FuncId) (ts:List TS) (dst:Option Nat) (K:Kn):Prop where
 h:∀ (o:Oper) (cx:Operand) (args:List Operand) (qA:Array TypeId),o.op= .call { callee:= .value cx,args:=args.toArray,argTypes:=qA }→T.cH 0 (aZ n e rs) cx=some (.fn f [])→o.dst=dst→
  kV (aZ n e rs) args=some ts→Yq m P w0 g0 o (aZ n e rs) (Lg n K)
def ep (P : Program) (f : FuncId) : Prop := ∃ fn, P.funcs[f]? = some fn ∧ fn.body.isNone = false ∧ (fn.name == "runtime.NumGoroutine") = false
theorem ep.mk {P : Program} {f : FuncId} {fn : Func} (h1 : P.funcs[f]? = some fn) (h2 : fn.body.isNone = false) (h3 : (fn.name == "runtime.NumGoroutine") = false) : ep P f := ⟨fn, h1, h2, h3⟩
section
variable {P:Program} {w0:World} {g0:Gh} {n:Nat} {e:List En} {rs:Rs} {K:Kn} {m:Bool} {f:FuncId} {ts pts:List TS} {d:Nat}
theorem ah {t:TS} {x:Value} (hc:Ao P w0 g0 f pts (RP t)) (hk:K (.set d t :: e) rs) 
  (hs:vt rs ts fun l=>l=pts:=by (repeat first|exact rfl|refine fi.mk (by first|exact WD.w|assumption) ?_|refine Ax ‹_› ?_|refine aL ‹_› ?_);done)
  (hp:qw t=some x:=by exact rfl) (hf:ep P f:=by exact .mk rfl rfl rfl):wi m P w0 g0 n e rs f ts (some d) K:=⟨fun o cx args qA ho m9 hd hx=>by
 obtain ⟨fn,h1,h2,h3⟩:=hf
 obtain ⟨l,h4,rfl⟩:=o9 (n:=n) (e:=e) hs
 refine .of (s3.U2 ho m9 h1 h2 h3 hx hc h4 hp rfl ?_)
 rw [hd]
 exact .put hk⟩
theorem bu {sz:Nat} (hc:Ao P w0 g0 f pts (RL sz ds)) (hk:tV d false [.own (.sl sz ds)] e rs fun e rs=>K (.set d (.one (.c (.ref ⟨d,[],0⟩))) :: e) rs) 
  (hs:vt rs ts fun l=>l=pts:=by (repeat first|exact rfl|refine fi.mk (by first|exact WD.w|assumption) ?_|refine Ax ‹_› ?_|refine aL ‹_› ?_);done)
  (hf:ep P f:=by exact .mk rfl rfl rfl):wi m P w0 g0 n e rs f ts (some d) K:=⟨fun o cx args qA ho m9 hd hx=>by
 obtain ⟨fn,h1,h2,h3⟩:=hf
 obtain ⟨l,h4,rfl⟩:=o9 (n:=n) (e:=e) hs
 obtain ⟨h5,h6⟩:=uK (n:=n) hk
 exact .of (s3.bu ho m9 h1 h2 h3 hd hx hc h4 h6 h5)⟩
theorem an {l:List RD} (hc:Ao P w0 g0 f pts (RG l)) (hk:lG (fh l) fun row=>Gq row fun cs=>tV d false cs e rs fun e rs=>nR (oO (s9 d 0 l)) fun t=>K (.set d t :: e) rs) 
  (hs:vt rs ts fun l=>l=pts:=by (repeat first|exact rfl|refine fi.mk (by first|exact WD.w|assumption) ?_|refine Ax ‹_› ?_|refine aL ‹_› ?_);done)
  (hok:(fh l).all Uq=true:=by exact rfl) (hf:ep P f:=by exact .mk rfl rfl rfl):wi m P w0 g0 n e rs f ts (some d) K:=⟨fun o cx args qA ho m9 hd hx=>by
 obtain ⟨fn,h1,h2,h3⟩:=hf
 obtain ⟨l',h4,rfl⟩:=o9 (n:=n) (e:=e) hs
 obtain ⟨h5,e',fZ,h6,h7⟩:=yG (n:=n) (pT (gA.1 hk))
 refine .of (s3.an ho m9 h1 h2 h3 hd hx hc h4 hok ?_ h5)
 rw [h6]
 exact .put (gN.1 h7)⟩
end
structure N6 (m:Bool) (P:Program) (w0:World) (g0:Gh) (n:Nat) (e:List En) (rs:Rs) (f:FuncId) (ts:List TS) (fV:List TV) (dst:Option Nat) (K:Kn):Prop where
 h:∀ (o:Oper) (cx:Operand) (args:List Operand) (qA:Array TypeId),o.op= .call { callee:= .value cx,args:=args.toArray,argTypes:=qA }→T.cH 0 (aZ n e rs) cx=some (.fn f fV)→o.dst=dst→
  kV (aZ n e rs) args=some ts→Yq m P w0 g0 o (aZ n e rs) (Lg n K)
section
variable {P:Program} {w0:World} {g0:Gh} {n:Nat} {e:List En} {rs:Rs} {K:Kn} {m:Bool} {f:FuncId} {ts pts:List TS} {fV:List TV} {d:Nat}
theorem VT {t:TS} {x:Value} (hc:Ao P w0 g0 f pts (RP t)) (hk:K (.set d t :: e) rs) 
  (hs:vt rs (ts ++ fV.map TS.one) fun l=>l=pts:=by (repeat first|exact rfl|refine fi.mk (by first|exact WD.w|assumption) ?_|refine Ax ‹_› ?_|refine aL ‹_› ?_);done)
  (hp:qw t=some x:=by exact rfl) (hf:ep P f:=by exact .mk rfl rfl rfl):N6 m P w0 g0 n e rs f ts fV (some d) K:=⟨fun o cx args qA ho m9 hd hx=>by
 obtain ⟨fn,h1,h2,h3⟩:=hf
 obtain ⟨l,h4,rfl⟩:=o9 (n:=n) (e:=e) hs
 refine .of (s3.callFC ho m9 h1 h2 h3 hx hc h4 hp rfl ?_)
 rw [hd]
 exact .put hk⟩
theorem Ql {l:List RD} (hc:Ao P w0 g0 f pts (RG l)) (hk:lG (fh l) fun row=>Gq row fun cs=>tV d false cs e rs fun e rs=>nR (oO (s9 d 0 l)) fun t=>K (.set d t :: e) rs) 
  (hs:vt rs (ts ++ fV.map TS.one) fun l=>l=pts:=by (repeat first|exact rfl|refine fi.mk (by first|exact WD.w|assumption) ?_|refine Ax ‹_› ?_|refine aL ‹_› ?_);done)
  (hok:(fh l).all Uq=true:=by exact rfl) (hf:ep P f:=by exact .mk rfl rfl rfl):N6 m P w0 g0 n e rs f ts fV (some d) K:=⟨fun o cx args qA ho m9 hd hx=>by
 obtain ⟨fn,h1,h2,h3⟩:=hf
 obtain ⟨l',h4,rfl⟩:=o9 (n:=n) (e:=e) hs
 obtain ⟨h5,e',fZ,h6,h7⟩:=yG (n:=n) (pT (gA.1 hk))
 refine .of (s3.callGC ho m9 h1 h2 h3 hd hx h4 hc hok ?_ h5)
 rw [h6]
 exact .put (gN.1 h7)⟩
end
def VU (m:Bool) (P:Program) (w0:World) (g0:Gh) (n:Nat) (c:Call) (dst:Option Nat) (e:List En) (rs:Rs) (K:Kn):Prop:=match c with
 | ⟨cl,as,ts⟩=>(match cl with
  | .value cx=>gH n e 0 cx fun t=>(match t with
   | .fn f l=>(match l with
    | []=>(match as with|⟨as⟩=>J8 n e as fun ts=>wi m P w0 g0 n e rs f ts dst K)
    | t :: l=>(match as with|⟨as⟩=>J8 n e as fun ts=>N6 m P w0 g0 n e rs f ts (t :: l) dst K))
   | _=>False)
  | _=>False)
def AA:Operand→Bool
 | .const v=>(match v with| .slice none 0 0=>true|_=>false)
 | _=>false
def BD (P:Program) (k:Nat) (ty:TypeId) (e:List En) (rs:Rs) (K:Kn):Prop:=match P.underlying ty with
 | some (.slice el)=>s_ P el fun sz=>LH [k] k sz [] e rs K
 | _=>False
def RN (P:Program) (n k:Nat) (dst:Option Nat) (t:TypeId) (x:Operand) (e:List En) (rs:Rs) (K:Kn):Prop:=gH n e 0 x fun a=>match a with
 | .one (.ptr pl)=>(match pl with
  | ⟨b,p,q⟩=>(match p with
   | []=>s_ P t fun s=>BR (Nat.beq s 1) (lP rs b [] q fun m _=>BR m (vq b [] q (.ref ⟨k,[],0⟩) e rs fun e rs=>mY dst (.one .dead) e rs K) False) False
   | _ :: _=>False))
 | _=>False
def CS (P:Program) (n:Nat) (dst:Option Nat) (t:TypeId) (x:Operand) (e:List En) (rs:Rs) (K:Kn):Prop:=match P.underlying t with
 | some (.slice el)=>s_ P el fun sz=>LG [999999] 999999 [.own (.sl sz [])] e rs fun e rs=>RN P n 999999 dst t x e rs K
 | _=>False
section
variable {P:Program} {w0:World} {g0:Gh} {n:Nat} {e:List En} {rs:Rs} {o:Oper} {K:Kn}
inductive RO (ds ns:List D) (lo len:Nat) (k:Nat→List D→Prop):Prop
 | mk (n:Nat) (l:List D) (hds:∀ d ∈ ds,iI d) (hns:∀ d ∈ ns,iI d) (hn:n=Nat.min ns.length len) (h0:0 < n) (he:l=ds.take lo ++ ns.take n ++ ds.drop (lo + n)) (c:k n l)
def LP (P:Program) (n:Nat) (dst:Option Nat) (y:Operand) (el:TypeId) (k lo:Nat) (zh:Option (Nat×Nat)) (e:List En) (rs:Rs) (K:Kn):Prop:=N3 rs k fun sz ds=>s_ P el fun s=>BR (Nat.beq sz s)
 (gH n e 0 y fun tv=>Ga rs tv fun sz' ns=>BR (Nat.beq sz' sz) (match zh with
  | none=>RO ds ns 0 ds.length fun m l=>Bw k sz l e rs fun e rs=>mY dst (I m) e rs K
  | some x=>(match x with|(z,hi)=>BR (Nat.beq z sz) (RO ds ns lo (hi - lo) fun m l=>Bw k sz l e rs fun e rs=>mY dst (I m) e rs K) False)) False) False
def VV (P:Program) (n:Nat) (dst:Option Nat) (x y:Operand) (t:TypeId) (e:List En) (rs:Rs) (K:Kn):Prop:=match P.underlying t with
 | some (.slice el)=>gH n e 0 x fun td=>(match td with
  | .one (.c (.ref pl))=>(match pl with|⟨k,p,q⟩=>BR (p.isEmpty && Nat.beq q 0) (LP P n dst y el k 0 none e rs K) False)
  | .one (.cut pl z lo hi)=>(match pl with|⟨k,p,q⟩=>BR (p.isEmpty && Nat.beq q 0) (LP P n dst y el k lo (some (z,hi)) e rs K) False)
  | _=>False)
 | _=>False
theorem Gv {el:TypeId} (ho:o.op= .call { callee:= .builtin .copy,args:= #[x,y],argTypes:= #[t,t2] }) (hu:P.underlying t=some (.slice el)) {td:TS} (hx:T.cH 0 (aZ n e rs) x=some td) {lo:Nat} {zh:Option (Nat×Nat)} 
  (htd:(zh=none∧lo=0∧td= .one (.c (.ref ⟨k,[],0⟩))) ∨ ∃ z hi,zh=some (z,hi)∧td= .one (.cut ⟨k,[],0⟩ z lo hi)) (h:LP P n o.dst y el k lo zh e rs K):gJ P w0 g0 o (aZ n e rs) (Lg n K):=by
 obtain ⟨sz,ds,h1,h2⟩:=BC (n:=n) (e:=e) h
 obtain ⟨s,h3,h4⟩:=k6 h2
 obtain ⟨h5,h6⟩:=bQ h4
 have h5:=ed h5
 subst h5
 obtain ⟨tv,h7,h8⟩:=bY (rs:=rs) h6
 obtain ⟨sz',ns,h9,mo⟩:=uI (n:=n) (e:=e) h8
 obtain ⟨qT,h12⟩:=bQ mo
 have qT:=ed qT
 subst qT
 have fin:∀ {lo len:Nat},Vf ds td=some (k,lo,len)→(∀ pl z i j,td= .one (.cut pl z i j)→z=sz')→(RO ds ns lo len fun m l=>Bw k sz' l e rs fun e rs=>mY o.dst (I m) e rs K)→gJ P w0 g0 o (aZ n e rs) (Lg n K):=fun hd hz hc=>by
  obtain ⟨m,l,hds,hns,hm,h0,rfl,hc⟩:=hc
  obtain ⟨hkp,e2,Kk,Pv,hk2⟩:=NU (n:=n) hc
  refine .copy ho hx h7 h1 hd hz h9 hds hns hu h3 hm h0 hkp ?_
  rw [Pv]
  exact gF hk2
 rcases htd with ⟨rfl,rfl,rfl⟩|⟨z,hi,rfl,rfl⟩
 exact fin rfl (fun pl z i j h=>by cases h) h12
 obtain ⟨rB,uJ⟩:=bQ h12
 exact fin rfl (fun pl z' i j h=>by cases h;exact ed rB) uJ
theorem VW (ho:o.op= .call { callee:= .builtin .copy,args:= #[x,y],argTypes:= #[t,t2] }) (h:VV P n o.dst x y t e rs K):gJ P w0 g0 o (aZ n e rs) (Lg n K):=by
 unfold VV at h
 split at h
 rename_i el hu
 obtain ⟨td,h1,h2⟩:=bY (rs:=rs) h
 split at h2
 rename_i pl
 obtain ⟨k,p,q⟩:=pl
 obtain ⟨h3,h4⟩:=bQ h2
 simp only [bh,List.isEmpty_iff] at h3
 obtain ⟨rfl,h3⟩:=h3
 have h3:=ed h3
 subst h3
 exact Gv ho hu h1 (.inl ⟨rfl,rfl,rfl⟩) h4
 rename_i pl z lo hi
 obtain ⟨k,p,q⟩:=pl
 obtain ⟨h3,h4⟩:=bQ h2
 simp only [bh,List.isEmpty_iff] at h3
 obtain ⟨rfl,h3⟩:=h3
 have h3:=ed h3
 subst h3
 exact Gv ho hu h1 (.inr ⟨z,hi,rfl,rfl⟩) h4
 exact h2.elim
 exact h.elim
end
def rp (m:Bool) (P:Program) (w0:World) (g0:Gh) (n:Nat) (o:Oper) (e:List En) (rs:Rs) (K:Kn):Prop:=match o with
 | ⟨dst,op,ty,_,_,_⟩=>(match op with
  | .call c=>(match c with
   | ⟨cl,as,ts⟩=>(match cl with
    | .builtin b=>(match b with
     | .append=>BR m False (match as with|⟨as⟩=>(match ts with|⟨ts⟩=>(match as,ts with
      | [x,y],[t,t2]=>LL dst fun k=>RM P n k x y t t2 e rs K
      | _,_=>False)))
     | .copy=>BR m False (match as with|⟨as⟩=>(match ts with|⟨ts⟩=>(match as,ts with
      | [x,y],[t,t2]=>VV P n dst x y t e rs K
      | _,_=>False)))
     | _=>BR m False (El P n e rs (.call ⟨.builtin b,as,ts⟩) fun t=>mY dst t e rs K))
    | _=>VU m P w0 g0 n ⟨cl,as,ts⟩ dst e rs K))
  | .buildSlice t len parts=>LL dst fun k=>Gi P n e rs k t len parts.toList K
  | .box t x=>BR m False (LL dst fun k=>boxW P n e rs k t x K)
  | .alloc t=>BR m False (LL dst fun k=>VD P k t e rs K)
  | .makeSlice t x y=>BR m False (LL dst fun k=>VE P n e rs k t x y K)
  | .build t parts=>BR m False (LL dst fun k=>VM P n k t parts.toList e rs K)
  | .store t x y=>BR m False (BR (AA y) (CS P n dst t x e rs K) (VO P n dst t x y e rs K))
  | .move x=>BR m False (BR (AA x) (LL dst fun k=>BD P k ty e rs K) (El P n e rs (.move x) fun t=>mY dst t e rs K))
  | .assign x=>BR m False (BR (AA x) (LL dst fun k=>BD P k ty e rs K) (El P n e rs (.assign x) fun t=>mY dst t e rs K))
  | op=>BR m False (El P n e rs op fun t=>mY dst t e rs K))
section
variable {P:Program} {w0:World} {g0:Gh} {n:Nat} {e:List En} {rs:Rs} {o:Oper} {K:Kn} {m:Bool}
theorem VX {c:Call} (ho:o.op= .call c) (h:VU m P w0 g0 n c o.dst e rs K):Yq m P w0 g0 o (aZ n e rs) (Lg n K):=by
 obtain ⟨cl,⟨as⟩,ts⟩:=c
 unfold VU at h
 simp only at h
 split at h
 obtain ⟨t,h1,h2⟩:=bY (rs:=rs) h
 split at h2
 split at h2
 obtain ⟨ts,h3,h4⟩:=xl (rs:=rs) h2
 exact h4.h o _ as _ ho h1 rfl h3
 obtain ⟨ts,h3,h4⟩:=xl (rs:=rs) h2
 exact h4.h o _ as _ ho h1 rfl h3
 exact h2.elim
 exact h.elim
theorem CT (h:AA x=true):x= .const (.slice none 0 0):=by
 unfold AA at h
 split at h
 split at h
 rfl
 cases h
 cases h
theorem DU {ty:TypeId} (ho:o.op= .move (.const (.slice none 0 0)) ∨ o.op= .assign (.const (.slice none 0 0))) (hd:o.dst=some k) (h:BD P k ty e rs K):gJ P w0 g0 o (aZ n e rs) (Lg n K):=by
 unfold BD at h
 split at h
 obtain ⟨sz,h1,h2⟩:=k6 h
 obtain ⟨h3,h4⟩:=yH (n:=n) h2
 exact .X5 ho hd sz h4 h3
 exact h.elim
theorem LQ (ho:o.op= .store t x (.const (.slice none 0 0))) (h:CS P n o.dst t x e rs K):gJ P w0 g0 o (aZ n e rs) (Lg n K):=by
 unfold CS at h
 split at h
 obtain ⟨sz,h1,h2⟩:=k6 h
 obtain ⟨hk,e1,rs1,h3,h4⟩:=CN (n:=n) h2
 unfold RN at h4
 obtain ⟨a,h5,h6⟩:=bY (rs:=rs1) h4
 split at h6
 rename_i pl
 obtain ⟨b,p,q⟩:=pl
 simp only at h6
 split at h6
 obtain ⟨s,h7,h8⟩:=k6 h6
 obtain ⟨h9,mo⟩:=bQ h8
 have h9:=ed h9
 subst h9
 obtain ⟨m,c0,qT,h12,rB⟩:=fF (n:=n) (e:=e1) mo
 obtain ⟨rfl,w8⟩:=bQ rB
 obtain ⟨bJ,uJ,e',fZ,Ki,Nc⟩:=si (n:=n) w8
 subst Ki
 refine .UY (k:=999999) ho sz (by rw [h3];exact h5) h7 (by rw [h3];exact qT) (by rw [h3];exact h12) (by rw [h3];exact uJ) (gF Nc) hk
 exact h6.elim
 exact h6.elim
 exact h.elim
theorem Fs (h:El P n e rs o.op fun t=>mY o.dst t e rs K):gJ P w0 g0 o (aZ n e rs) (Lg n K):=by
 obtain ⟨t,h1,h2⟩:=Fo (w0:=w0) (g0:=g0) h
 exact .val h1 (gF h2)
theorem j_ (h:rp m P w0 g0 n o e rs K):Yq m P w0 g0 o (aZ n e rs) (Lg n K):=by
 obtain ⟨dst,op,ty,pos,af,gd⟩:=o
 have hT:∀ {A:Prop},BR m False A→(A→gJ P w0 g0 ⟨dst,op,ty,pos,af,gd⟩ (aZ n e rs) (Lg n K))→Yq m P w0 g0 ⟨dst,op,ty,pos,af,gd⟩ (aZ n e rs) (Lg n K):=fun h1 h2=>by
  obtain ⟨rfl,h3⟩:=rm h1
  exact h2 h3
 unfold rp at h
 simp only at h
 split at h
 rename_i c
 obtain ⟨cl,as,ts⟩:=c
 simp only at h
 split at h
 split at h
 refine hT h fun h=> ?_
 obtain ⟨as⟩:=as
 obtain ⟨ts⟩:=ts
 simp only at h
 split at h
 obtain ⟨k,h1,h2⟩:=tc h
 exact Qj rfl h1 h2
 exact h.elim
 refine hT h fun h=> ?_
 obtain ⟨as⟩:=as
 obtain ⟨ts⟩:=ts
 simp only at h
 split at h
 exact VW rfl h
 exact h.elim
 exact hT h fun h=>Fs h
 exact VX rfl h
 obtain ⟨k,h1,h2⟩:=tc h
 exact NZ rfl h1 h2
 refine hT h fun h=> ?_
 obtain ⟨k,h1,h2⟩:=tc h
 exact Yr rfl h1 h2
 refine hT h fun h=> ?_
 obtain ⟨k,h1,h2⟩:=tc h
 exact Tl rfl h1 h2
 refine hT h fun h=> ?_
 obtain ⟨k,h1,h2⟩:=tc h
 exact VF rfl h1 h2
 refine hT h fun h=> ?_
 obtain ⟨k,h1,h2⟩:=tc h
 exact Tq rfl h1 h2
 refine hT h fun h=> ?_
 rcases gM.1 h with ⟨h1,h2⟩|⟨h1,h2⟩
 exact LQ (by rw [CT h1]) h2
 exact Tr rfl h2
 refine hT h fun h=> ?_
 rcases gM.1 h with ⟨h1,h2⟩|⟨h1,h2⟩
 obtain ⟨k,h3,h4⟩:=tc h2
 exact DU (.inl (by rw [CT h1])) h3 h4
 exact Fs h2
 refine hT h fun h=> ?_
 rcases gM.1 h with ⟨h1,h2⟩|⟨h1,h2⟩
 obtain ⟨k,h3,h4⟩:=tc h2
 exact DU (.inr (by rw [CT h1])) h3 h4
 exact Fs h2
 exact hT h fun h=>Fs h
end
end
end Go.Proofs.YtdliggkohdnipaaGreat.T
