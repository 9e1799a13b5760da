import Derived.Test.YtdliggkohdnipaaGreatTzqq
import Derived.Test.YtdliggkohdnipaaGreatT3q
set_option linter.unusedVariables false
set_option linter.unusedSimpArgs false
namespace Go.Proofs.YtdliggkohdnipaaGreat.T
open Go
inductive o8 (kd:Nat) (wy:List (Nat×Nat)) (aO:List (Nat×Nat)) (K0:Nat):Nat→List C→List C→List C→List Nat→Prop where
 | nil {q:Nat}:o8 kd wy aO K0 q [] [] [] []
 | keep {q:Nat} {c0 c1:C} {l0 l1 l2:List C} {qs:List Nat} (hl:o8 kd wy aO K0 (q + 1) l0 l1 l2 qs):o8 kd wy aO K0 q (c0 :: l0) (c1 :: l1) (c1 :: l2) qs
 | rev {q:Nat} {c1:C} {l0 l1 l2:List C} {qs:List Nat} {j i s1 s2 q1:Nat} {r:List (Nat×Nat)} (hw:wy=(j,i) :: r) (hs:aO[j]? = some (s1,s2)) (hn:idxOf (K0,q) aO=none) (hl:o8 kd wy aO K0 (q + 1) l0 l1 l2 qs):
  o8 kd wy aO K0 q (.ref ⟨s1,(s2,i) :: r,q1⟩ :: l0) (c1 :: l1) (.ref ⟨kd,wy,q1⟩ :: l2) (q1 :: qs)
theorem o8.get {kd:Nat} {wy:List (Nat×Nat)} {aO:List (Nat×Nat)} {K0:Nat}:∀ {l0 l1 l2:List C} {q:Nat} {qs:List Nat},o8 kd wy aO K0 q l0 l1 l2 qs→l2.length=l1.length∧
  (∀ (n:Nat) c2,l2[n]? = some c2→l1[n]? = some c2 ∨ ∃ (j i:Nat) (r:List (Nat×Nat)) (s1 s2 q1:Nat),wy=(j,i) :: r∧aO[j]? = some (s1,s2)∧q1 ∈ qs∧l0[n]? = some (C.ref ⟨s1,(s2,i) :: r,q1⟩)∧idxOf (K0,q + n) aO=none∧c2= .ref ⟨kd,wy,q1⟩)∧
  ∀ q1 ∈ qs,∃ (n j i:Nat) (r:List (Nat×Nat)) (s1 s2:Nat),wy=(j,i) :: r∧aO[j]? = some (s1,s2)∧l0[n]? = some (C.ref ⟨s1,(s2,i) :: r,q1⟩)
 | _,_,_,_,_, .nil=>⟨rfl,fun j c2 h=>by simp at h,fun q1 h=>by cases h⟩
 | _,_,_,q,qs, .keep hl=>by
  obtain ⟨h1,h2,h3⟩:=hl.get
  refine ⟨by simp [h1],fun n c2 hn=> ?_,fun q1 hq=> ?_⟩
  cases n with
  | zero=>exact .inl hn
  | succ n=>
   rcases h2 n c2 (by simpa using hn) with h|⟨j,i,r,s1,s2,q1,e1,e2,e3,e4,e5,e6⟩
   exact .inl (by simpa using h)
   exact .inr ⟨j,i,r,s1,s2,q1,e1,e2,e3,by simpa using e4,by rw [show q + (n + 1)=q + 1 + n by omega];exact e5,e6⟩
  obtain ⟨n,j,i,r,s1,s2,e1,e2,e3⟩:=h3 q1 hq
  exact ⟨n + 1,j,i,r,s1,s2,e1,e2,by simpa using e3⟩
 | _,_,_,q,_, @o8.rev _ _ _ _ _ c1 l0 l1 l2 qs j i s1 s2 q1 r hw hs hno hl=>by
  obtain ⟨h1,h2,h3⟩:=hl.get
  refine ⟨by simp [h1],fun n c2 hn=> ?_,fun q2 hq=> ?_⟩
  cases n with
  | zero=>
   simp only [List.getElem?_cons_zero,ea] at hn
   exact .inr ⟨j,i,r,s1,s2,q1,hw,hs,uy,rfl,hno,hn.symm⟩
  | succ n=>
   rcases h2 n c2 (by simpa using hn) with h|⟨j,i,r,s1,s2,q1,e1,e2,e3,e4,e5,e6⟩
   exact .inl (by simpa using h)
   exact .inr ⟨j,i,r,s1,s2,q1,e1,e2,xb _ e3,by simpa using e4,by rw [show q + (n + 1)=q + 1 + n by omega];exact e5,e6⟩
  rcases m8.1 hq with rfl|hq
  exact ⟨0,j,i,r,s1,s2,hw,hs,rfl⟩
  obtain ⟨n,j,i,r,s1,s2,e1,e2,e3⟩:=h3 q2 hq
  exact ⟨n + 1,j,i,r,s1,s2,e1,e2,by simpa using e3⟩
section
variable {P:Program} {w0 w:World} {g0 g:Gh} {st:St} {a:Act}
theorem gJ.call3K {o:Oper} {bJ:St} {Q:St→Prop} {f:FuncId} {cx:Operand} {args:List Operand} {qA:Array TypeId} {fn:Func}
  (ho:o.op= .call { callee:= .value cx,args:=args.toArray,argTypes:=qA }) (m9:T.cH 0 st cx=some (.fn f [])) (hf:P.funcs[f]? = some fn) (hb:fn.body.isNone=false)
  (hn : (fn.name == "runtime.NumGoroutine") = false) {ts ts' : List TS} (hx : kV st args = some ts) {row Ei : List D} {T : Nat → TS} {wy : List (Nat × Nat)} {qs : List Nat} {R : nQ → Prop} (hc : kZ P f row wy qs ts' R) (hRR : ∀ r, R r → r.row = Ei ∧ r.val = T)
  {aO:List (Nat×Nat)} {kd:Nat} (hC:fO st ⟨false,row⟩ aO none kd) (hs:bk st aO none cu ts ts') (hok:X0 kd Ei.length (T kd)=true)
  {K0:Nat} {m0 m1:Bool} {uv P3 Ej:List C} (hK0:st.root K0=some ⟨m0,uv⟩) (Al:(Nat.beq K0 kd)=false) (NL:((st.iJ aO false (row.map fun _=> .hole) kd).cw kd ⟨false,Ei.map C.own⟩).root K0=some ⟨m1,P3⟩) (hrev:o8 kd wy aO K0 0 uv P3 Ej qs)
  (Nx:(((st.iJ aO false (row.map fun _=> .hole) kd).cw kd ⟨false,Ei.map C.own⟩).cw K0 ⟨m1,Ej⟩).put o.dst (T kd)=bJ) (hq:Q bJ):gJ P w0 g0 o st Q:=fun a w g hR K Q' hK=>by
 have hne:K0 ≠ kd:=fun e=>by subst e;simp at Al
 have h1:=hR.kV hx
 have h2:=hs.get
 have hv:=hrev.get
 have e3:∀ {j i:Nat} {r:List (Nat×Nat)} {s1 s2 q1:Nat},aO[j]? = some (s1,s2)→(g.hand w.heap.size aO none cu).cv cu ((j,i) :: r) q1=g.cv s1 ((s2,i) :: r) q1:=fun hsj=>by simp only [Gh.hand,if_true,hsj]
 have kX:=hc w (g.hand w.heap.size aO none cu) (args.map a.eval).toArray kd hC.Yb (hR.iJ hC) (fun q1 hq=>by
  obtain ⟨n,j,i,r,s1,s2,e1,e2,e4⟩:=hv.2.2 q1 hq
  subst e1
  rw [e3 e2]
  have h9:=hR.rt.cell K0 _ hK0 n _ e4
  rw [← h9.1]
  exact h9.2) (by simp [h1.1,h2.1]) (fun i t' u hi hu=>by
  obtain ⟨t,h3,h4⟩:=h2.2 i t' hi
  exact hR.NE hC h4 (h1.2 i t u h3 (by simpa using hu)))
 unfold Oper.wp
 rw [mq hR ho m9 hf hb hn w]
 refine kX.mono fun e w' ⟨v,row',r,g',he,⟨hrr,hRr⟩,hG,hkeep⟩=> ?_
 subst he
 subst hrr
 obtain ⟨Tc,PW⟩:=hRR r hRr
 have h5:=hG.val
 rw [PW] at h5
 obtain ⟨g2,DG,hrow,hval,_,Ni,hcvo⟩:=hR.Bo hC hG
 rw [Tc] at hrow hval
 have hR3:=DG.Fh hC.Yb (by rw [qB];exact if_pos rfl) hrow
 have hR4:=hR3.revive (row':=Ej) NL hv.1 fun q c' hq=>by
  rcases hv.2.1 q c' hq with h6|⟨j,i,r,s1,s2,q1,e1,e2,e4,e5,e6,e7⟩
  exact .inl h6
  subst e1 e7
  rw [Nat.zero_add] at e6
  have h9:=hR.rt.cell K0 _ hK0 q _ e5
  refine .inr ⟨?_, ?_⟩
  rw [hcvo K0 q hne e6,Ni,hkeep q1 e4,e3 e2]
  exact h9.1
  rw [hcvo K0 q hne e6]
  exact h9.2
 exact hK _ _ _ _ hq (Nx ▸ hR4.put (hval _ _ hok h5) o.dst)
end
inductive En where
 | set (i:Nat) (t:TS)
 | app (f:TS→TS)
abbrev Rs:=List (Nat×Rt)
abbrev Kn:=List En→Rs→Prop
abbrev BR (b:Bool) (t f:Prop):Prop:= @Bool.rec (fun _=>Prop) f t b
theorem gM {b:Bool} {A B:Prop}:BR b A B ↔ (b=true∧A) ∨ (b=false∧B):=by cases b <;> simp [BR]
theorem bQ {b:Bool} {A:Prop} (h:BR b A False):b=true∧A:=by cases b <;> simp_all [BR]
theorem dV {b:Bool} {A B:Prop} (h1:b=true→A) (h2:b=false→B):BR b A B:=by cases b;exact h2 rfl;exact h1 rfl
def look:List En→Nat→TS
 | [],_=> .one .dead
 | .set j t :: l,i=>if Nat.beq j i then t else look l i
 | .app f :: l,i=>f (look l i)
def aZ (n:Nat) (e:List En) (rs:Rs):St:=⟨(List.range n).map (look e),rs⟩
theorem Br {n i:Nat} {e:List En} {rs:Rs} (h:i < n):(aZ n e rs).tmps[i]? = some (look e i):=by simp [aZ,h]
theorem F8 {n i:Nat} {e:List En} {rs:Rs} {t:TS}:(aZ n e rs).put (some i) t=aZ n (.set i t :: e) rs:=by
 simp only [St.put,aZ,St.mk.injEq,and_true]
 apply List.ext_getElem?
 intro j
 rw [nN,ec,ec]
 by_cases hj:j < n
 by_cases h:i=j
 subst h
 simp [hj,look]
 have hb:Nat.beq i j=false:=dG.2 fun e=>h (ed e)
 simp [hj,look,h,hb]
 by_cases h:i=j
 subst h
 simp [hj]
 simp [hj,h]
theorem iY {n:Nat} {e:List En} {rs fZ:Rs} {f:TS→TS}:(⟨(aZ n e rs).tmps.map f,fZ⟩:St)=aZ n (.app f :: e) fZ:=by
 simp only [aZ,List.map_map,St.mk.injEq,and_true]
 rfl
def At (d:D) (k:D→Prop):Prop:=match d with| .v x=>k (.v x)| .sl s l=>k (.sl s l)| .st l=>k (.st l)| .hole=>k .hole
theorem r9 {d:D} {k:D→Prop}:At d k ↔ k d:=by cases d <;> rfl
def lG:List D→(List D→Prop)→Prop
 | [],k=>k []
 | d :: l,k=>At d fun d=>lG l fun l=>k (d :: l)
theorem gA:∀ {l:List D} {k:List D→Prop},lG l k ↔ k l
 | [],k=>Iff.rfl
 | d :: l,k=>by simp only [lG,r9,gA]
def Au (c:C) (k:C→Prop):Prop:=match c with
 | .ro d=>At d fun d=>k (.ro d)
 | .own d=>At d fun d=>k (.own d)
 | .ref pl=>match pl with|⟨a,p,q⟩=>k (.ref ⟨a,p,q⟩)
 | .dead=>k .dead
theorem r_ {c:C} {k:C→Prop}:Au c k ↔ k c:=by cases c <;> simp [Au,r9]
def f_:List C→(List C→Prop)→Prop
 | [],k=>k []
 | c :: l,k=>Au c fun c=>f_ l fun l=>k (c :: l)
theorem dK:∀ {l:List C} {k:List C→Prop},f_ l k ↔ k l
 | [],k=>Iff.rfl
 | c :: l,k=>by simp only [f_,r_,dK]
def Fj (t:TV) (k:TV→Prop):Prop:=match t with
 | .c c=>Au c fun c=>k (.c c)
 | .agg cs=>f_ cs fun cs=>k (.agg cs)
 | .ptr pl=>match pl with|⟨a,p,q⟩=>k (.ptr ⟨a,p,q⟩)
 | .b9 ds=>k (.b9 ds)
 | .Ef p=>k (.Ef p)
 | .qV p=>k (.qV p)
 | .cut pl sz lo hi=>match pl with|⟨a,p,q⟩=>k (.cut ⟨a,p,q⟩ sz lo hi)
 | .dead=>k .dead
theorem DP {t:TV} {k:TV→Prop}:Fj t k ↔ k t:=by cases t <;> simp [Fj,r_,dK]
def Bs:List TV→(List TV→Prop)→Prop
 | [],k=>k []
 | c :: l,k=>Fj c fun c=>Bs l fun l=>k (c :: l)
theorem Bt:∀ {l:List TV} {k:List TV→Prop},Bs l k ↔ k l
 | [],k=>Iff.rfl
 | c :: l,k=>by simp only [Bs,DP,Bt]
def nR (t:TS) (k:TS→Prop):Prop:=match t with
 | .one t=>Fj t fun t=>k (.one t)
 | .mj ts=>Bs ts fun ts=>k (.mj ts)
 | .fn f ts=>k (.fn f ts)
theorem gN {t:TS} {k:TS→Prop}:nR t k ↔ k t:=by cases t <;> simp [nR,DP,Bt]
def oneOf (a:Nat):List Nat→(Nat→Prop)→Prop
 | [],_=>False
 | c :: l,k=>BR (Nat.beq a c) (k c) (oneOf a l k)
theorem oo {a:Nat} {k:Nat→Prop}:∀ {l:List Nat},oneOf a l k→k a
 | [],h=>h.elim
 | c :: l,h=>by
  rcases gM.1 h with ⟨h1,h2⟩|⟨_,h2⟩
  rw [ed h1];exact h2
  exact oo h2
def small:List Nat:=[1,2,15,4,9,3,6,0,5,7,8,10,11,12,13,14,16,17,18,19,20,21,22,23,24,25,26,27,28,29,30]
def Fk (ks:List Nat):Rs→(Rs→Prop)→Prop
 | [],k=>k []
 | (a,⟨m,row⟩) :: l,k=>oneOf a ks fun a=>BR m (f_ row fun row=>Fk ks l fun l=>k ((a,⟨true,row⟩) :: l)) (f_ row fun row=>Fk ks l fun l=>k ((a,⟨false,row⟩) :: l))
theorem Av {ks:List Nat}:∀ {l:Rs} {k:Rs→Prop},Fk ks l k→k l
 | [],k,h=>h
 | (a,⟨m,row⟩) :: l,k,h=>by
  have h1:=oo h
  rcases gM.1 h1 with ⟨rfl,h2⟩|⟨rfl,h2⟩
  exact Av (l:=l) (dK.1 h2)
  exact Av (l:=l) (dK.1 h2)
def P4:Rs→(List Nat→Prop)→Prop
 | [],k=>k []
 | (a,_) :: l,k=>P4 l fun ks=>k (a :: ks)
theorem J7:∀ {l:Rs} {k:List Nat→Prop},P4 l k→∃ ks,k ks
 | [],k,h=>⟨_,h⟩
 | (a,_) :: l,k,h=>(J7 (l:=l) h).elim fun ks h=>⟨_,h⟩
def k5 (nk:Nat) (rs fZ:Rs) (k:Rs→Prop):Prop:=P4 rs fun ks=>Fk (nk :: ks) fZ k
theorem hU {nk:Nat} {rs fZ:Rs} {k:Rs→Prop} (h:k5 nk rs fZ k):k fZ:=(J7 h).elim fun _ h=>Av h
def lookW:List En→Nat→(TS→Prop)→Prop
 | [],_,k=>k (.one .dead)
 | .set j t :: l,i,k=>BR (Nat.beq j i) (k t) (lookW l i k)
 | .app f :: l,i,k=>lookW l i fun t=>k (f t)
theorem sc:∀ {e:List En} {i:Nat} {k:TS→Prop},lookW e i k→k (look e i)
 | [],i,k,h=>h
 | .set j t :: l,i,k,h=>by
  rcases gM.1 h with ⟨h1,h2⟩|⟨h1,h2⟩
  simp only [look,h1,if_true];exact h2
  simp only [look,h1,gD,if_false];exact sc h2
 | .app f :: l,i,k,h=>sc (k:=fun t=>k (f t)) h
def P5 (n:Nat) (e:List En) (i:Nat) (k:TS→Prop):Prop:=BR (Nat.blt i n) (lookW e i fun t=>nR t k) False
theorem yE {n i:Nat} {e:List En} {rs:Rs} {k:TS→Prop} (h:P5 n e i k):∃ t,(aZ n e rs).tmps[i]? = some t∧k t:=by
 obtain ⟨h1,h2⟩:=bQ h
 exact ⟨_,Br (fA h1),gN.1 (sc h2)⟩
def gH (n:Nat) (e:List En) (z:Nat) (x:Operand) (k:TS→Prop):Prop:=match x with
 | .tmp i=>P5 n e i k
 | .const v=>match v with
  | .bool b=>k (V (.bool b))
  | .int kd m=>k (V (.int kd m))
  | .string s=>k (V (.string s))
  | .slice none 0 0=>k (.one (.c (.ro (.sl z []))))
  | _=>False
 | .func f=>k (.fn f [])
 | .global _=>False
theorem bY {n z:Nat} {e:List En} {rs:Rs} {x:Operand} {k:TS→Prop} (h:gH n e z x k):∃ t,T.cH z (aZ n e rs) x=some t∧k t:=by
 unfold gH at h
 split at h
 exact yE h
 split at h
 exact ⟨_,rfl,h⟩
 exact ⟨_,rfl,h⟩
 exact ⟨_,rfl,h⟩
 exact ⟨_,rfl,h⟩
 exact h.elim
 exact ⟨_,rfl,h⟩
 exact h.elim
def J8 (n:Nat) (e:List En):List Operand→(List TS→Prop)→Prop
 | [],k=>k []
 | x :: l,k=>gH n e 0 x fun t=>J8 n e l fun ts=>k (t :: ts)
theorem xl {n:Nat} {e:List En} {rs:Rs}:∀ {l:List Operand} {k:List TS→Prop},J8 n e l k→∃ ts,kV (aZ n e rs) l=some ts∧k ts
 | [],k,h=>⟨[],rfl,h⟩
 | x :: l,k,h=>by
  obtain ⟨t,h1,h2⟩:=bY (rs:=rs) h
  obtain ⟨ts,h3,h4⟩:=xl (rs:=rs) h2
  exact ⟨t :: ts,by simp [kV,h1,h3],h4⟩
def sg {α:Type}:List α→Nat→(α→Prop)→Prop
 | [],_,_=>False
 | x :: _,0,k=>k x
 | _ :: l,n + 1,k=>sg l n k
theorem iK {α:Type}:∀ {l:List α} {n:Nat} {k: α→Prop},sg l n k→∃ x,l[n]? = some x∧k x
 | [],_,_,h=>h.elim
 | x :: _,0,k,h=>⟨x,rfl,h⟩
 | _ :: l,n + 1,k,h=>iK (l:=l) h
def CL {α:Type}:List α→Nat→ α→(List α→Prop)→Prop
 | [],_,_,_=>False
 | _ :: l,0,x,k=>k (x :: l)
 | y :: l,n + 1,x,k=>CL l n x fun l=>k (y :: l)
theorem ny {α:Type}:∀ {l:List α} {n:Nat} {x: α} {k:List α→Prop},CL l n x k→n < l.length∧k (l.set n x)
 | [],_,_,_,h=>h.elim
 | _ :: l,0,x,k,h=>⟨by simp,h⟩
 | y :: l,n + 1,x,k,h=>by
  obtain ⟨h1,h2⟩:=ny (l:=l) h
  exact ⟨by simp;omega,h2⟩
def rj:Rs→Nat→(Bool→List C→Prop)→Prop
 | [],_,_=>False
 | (a,⟨m,row⟩) :: l,i,k=>BR (Nat.beq a i) (k m row) (rj l i k)
theorem iZ {n:Nat} {e:List En}:∀ {rs:Rs} {i:Nat} {k:Bool→List C→Prop},rj rs i k→∃ m row,(aZ n e rs).root i=some ⟨m,row⟩∧k m row
 | [],_,_,h=>h.elim
 | (a,⟨m,row⟩) :: l,i,k,h=>by
  rcases gM.1 h with ⟨h1,h2⟩|⟨h1,h2⟩
  exact ⟨m,row,by simp [St.root,aZ,ed h1],h2⟩
  obtain ⟨m',row',h3,h4⟩:=iZ (n:=n) (e:=e) (rs:=l) h2
  refine ⟨m',row', ?_,h4⟩
  have hne:¬ a=i:=fun h=>by subst h;simp at h1
  simp only [St.root,aZ] at h3 ⊢
  rw [List.find?_cons_of_neg (by simpa using hne)]
  exact h3
abbrev Yj (ds:List D) (i:Nat) (k:D→Prop):Prop:= @Option.rec D (fun _=>Prop) False k (ds[i]?)
theorem Aw {ds:List D} {i:Nat} {k:D→Prop} (h:Yj ds i k):∃ d,ds[i]? = some d∧k d:=by
 unfold Yj at h
 generalize hd:ds[i]? = x at h
 cases x with
 | none=>exact h.elim
 | some d=>exact ⟨d,rfl,h⟩
theorem Ax {ds:List D} {i:Nat} {d:D} {k:D→Prop} (h:ds[i]? = some d) (c:k d): @Option.rec D (fun _=>Prop) False k (ds[i]?):=by rw [h];exact c
def NM (d:D) (k:List D→Prop):Prop:=match d with
 | .st ds=>lG ds k
 | .v x=>k [.v x]
 | .sl s l=>k [.sl s l]
 | .hole=>k [.hole]
theorem yF {d:D} {k:List D→Prop} (h:NM d k):k d.row:=by cases d <;> simpa [NM,D.row,gA] using h
def Vj (q i:Nat) (r:List D) (f:List D→Prop):Prop:=sg r q fun d=>match d with
 | .sl _ ds=>Yj ds i fun d=>NM d f
 | _=>False
def LC (r:List D) (p:List (Nat×Nat)) (k:List D→Prop):Prop:=
 @List.rec (Nat×Nat) (fun _=>List D→(List D→Prop)→Prop) (fun r k=>k r) (fun qi _ ih r k=>match qi with
  | (q,i)=>Vj q i r fun row=>ih row k) p r k
theorem NN {r:List D} {q i:Nat} {p:List (Nat×Nat)} {k:List D→Prop} (h:LC r ((q,i) :: p) k):Vj q i r fun row=>LC row p k:=h
theorem J9:∀ {p:List (Nat×Nat)} {r:List D} {k:List D→Prop},LC r p k→∃ row,rowAt r p=some row∧k row
 | [],r,k,h=>⟨r,rfl,h⟩
 | (q,i) :: p,r,k,h=>by
  have h:=NN h
  unfold Vj at h
  obtain ⟨d,h1,h2⟩:=iK h
  split at h2
  rename_i sz ds
  obtain ⟨d,h3,h4⟩:=Aw h2
  obtain ⟨row,h5,h6⟩:=J9 (yF h4)
  exact ⟨row,by simp [rowAt,h1,h3,h5],h6⟩
  exact h2.elim
def zK:List D→(List C→Prop)→Prop
 | [],k=>k []
 | d :: l,k=>At d fun d=>zK l fun l=>k (.own d :: l)
theorem oq:∀ {l:List D} {k:List C→Prop},zK l k→k (l.map C.own)
 | [],k,h=>h
 | d :: l,k,h=>oq (l:=l) (r9.1 h)
def atW (rs:Rs) (a:Nat) (p:List (Nat×Nat)) (k:Bool→List C→Prop):Prop:=rj rs a fun m row=>match p with
 | []=>k m row
 | (q1,i) :: p=>sg row q1 fun c=>match c with
  | .own d=>(match d with
   | .sl _ ds=>Yj ds i fun d=>NM d fun r=>LC r p fun r=>zK r (k true)
   | _=>False)
  | _=>False
theorem P6 {n a:Nat} {e:List En} {rs:Rs} {p:List (Nat×Nat)} {k:Bool→List C→Prop} (h:atW rs a p k):∃ m row,(∀ q,(aZ n e rs).cellAt ⟨a,p,q⟩=row[q]?)∧(∀ q,(aZ n e rs).g_ ⟨a,p,q⟩=m)∧k m row:=by
 obtain ⟨m,row,h1,h2⟩:=iZ (n:=n) (e:=e) h
 cases p with
 | nil=>exact ⟨m,row,fun q=>by simp [St.cellAt,h1],fun q=>by simp [St.g_,h1],h2⟩
 | cons x p=>
  obtain ⟨q1,i⟩:=x
  obtain ⟨c,h3,h4⟩:=iK h2
  split at h4
  split at h4
  obtain ⟨d,h5,h6⟩:=Aw h4
  obtain ⟨r,h7,h8⟩:=J9 (yF h6)
  refine ⟨true,_,fun q=> ?_,fun q=>by simp [St.g_],oq h8⟩
  simp only [St.cellAt,h1,h3,h5,h7,ec]
  cases r[q]? <;> rfl
  exact h4.elim
  exact h4.elim
def lP (rs:Rs) (a:Nat) (p:List (Nat×Nat)) (q:Nat) (k:Bool→C→Prop):Prop:=atW rs a p fun m row=>sg row q fun c=>Au c (k m)
theorem fF {n a q:Nat} {e:List En} {rs:Rs} {p:List (Nat×Nat)} {k:Bool→C→Prop} (h:lP rs a p q k):∃ m c,(aZ n e rs).cellAt ⟨a,p,q⟩=some c∧(aZ n e rs).g_ ⟨a,p,q⟩=m∧k m c:=by
 obtain ⟨m,row,h1,h2,h3⟩:=P6 (n:=n) (e:=e) h
 obtain ⟨c,h4,h5⟩:=iK h3
 exact ⟨m,c,by rw [h1,h4],h2 q,r_.1 h5⟩
def NO (a:Nat) (p:List (Nat×Nat)) (q:Nat) (c:C) (k:C→Prop):Prop:=match c with
 | .ro d=>k (.ro d)
 | .own d=>(match d with
  | .v x=>k (.ro (.v x))
  | .sl _ _=>k (.ref ⟨a,p,q⟩)
  | .st _=>k .dead
  | .hole=>k .dead)
 | .ref pl=>k (.ref pl)
 | .dead=>k .dead
theorem Bu {a q:Nat} {p:List (Nat×Nat)} {c:C} {k:C→Prop} (h:NO a p q c k):k (PD ⟨a,p,q⟩ c):=by
 cases c with
 | own d=>cases d <;> exact h
 | ro d=>exact h
 | ref pl=>exact h
 | dead=>exact h
def P7 (a:Nat) (p:List (Nat×Nat)):List C→Nat→Nat→(List C→Prop)→Prop
 | _,_,0,k=>k []
 | [],_,_ + 1,_=>False
 | c :: l,q,n + 1,k=>Au c fun c=>NO a p q c fun c=>P7 a p l (q + 1) n fun l=>k (c :: l)
theorem J_ {n a:Nat} {e:List En} {rs:Rs} {p:List (Nat×Nat)} {row:List C} (hr:∀ q,(aZ n e rs).cellAt ⟨a,p,q⟩=row[q]?):∀ {m:Nat} {l:List C} {q:Nat} {k:List C→Prop},row.drop q=l→P7 a p l q m k→∃ l,(aZ n e rs).mm a p q m=some l∧k l
 | 0,l,q,k,_,h=>⟨[],rfl,by cases l <;> exact h⟩
 | m + 1,[],q,k,_,h=>h.elim
 | m + 1,c :: l,q,k,hl,h=>by
  have h1:row[q]? = some c:=by rw [← List.head?_drop,hl];rfl
  have h2:row.drop (q + 1)=l:=by rw [← List.tail_drop,hl];rfl
  obtain ⟨l',h3,h4⟩:=J_ hr (m:=m) (l:=l) (q:=q + 1) h2 (Bu (r_.1 h))
  exact ⟨_,by rw [St.mm,hr,h1];simp only [h3],h4⟩
def Ka {α:Type}:List α→Nat→(List α→Prop)→Prop
 | l,0,k=>k l
 | [],_ + 1,k=>k []
 | _ :: l,n + 1,k=>Ka l n k
theorem xm {α:Type}:∀ {l:List α} {n:Nat} {k:List α→Prop},Ka l n k→k (l.drop n)
 | [],0,k,h=>h
 | [],n + 1,k,h=>h
 | x :: l,0,k,h=>h
 | x :: l,n + 1,k,h=>xm (l:=l) h
def P8 (rs:Rs) (a:Nat) (p:List (Nat×Nat)) (q n:Nat) (k:Bool→List C→Prop):Prop:=atW rs a p fun m row=>Ka row q fun l=>P7 a p l q n (k m)
theorem Kb {n a c q:Nat} {e:List En} {rs:Rs} {p:List (Nat×Nat)} {k:Bool→List C→Prop} (h:P8 rs a p q c k):∃ l,(aZ n e rs).mm a p q c=some l∧k ((aZ n e rs).g_ ⟨a,p,q⟩) l:=by
 obtain ⟨m,row,h1,h2,h3⟩:=P6 (n:=n) (e:=e) h
 obtain ⟨l,h4,h5⟩:=J_ h1 rfl (xm h3)
 exact ⟨l,h4,by rw [h2];exact h5⟩
end Go.Proofs.YtdliggkohdnipaaGreat.T
