import Derived.Test.YtdliggkohdnipaaGreatTzqr
import Derived.Test.YtdliggkohdnipaaGreatT3r
set_option linter.unusedVariables false
set_option linter.unusedSimpArgs false
namespace Go.Proofs.YtdliggkohdnipaaGreat.T
open Go
inductive nN (kd:Nat) (wy:List (Nat×Nat)) (aK:List (Nat×Nat)) (K0:Nat):Nat→List C→List C→List C→List Nat→Prop where
 | nil {q:Nat}:nN kd wy aK K0 q [] [] [] []
 | keep {q:Nat} {c0 c1:C} {l0 l1 l2:List C} {qs:List Nat} (hl:nN kd wy aK K0 (q + 1) l0 l1 l2 qs):nN kd wy aK K0 q (c0 :: l0) (c1 :: l1) (c1 :: l2) qs
 | rev {q:Nat} {c1:C} {l0 l1 l2:List C} {qs:List Nat} {j i s1 s2 q1:Nat} {r:List (Nat×Nat)} (hw:wy=(j,i) :: r) (hs:aK[j]? = some (s1,s2)) (hn:idxOf (K0,q) aK=none) (hl:nN kd wy aK K0 (q + 1) l0 l1 l2 qs):
  nN kd wy aK K0 q (.ref ⟨s1,(s2,i) :: r,q1⟩ :: l0) (c1 :: l1) (.ref ⟨kd,wy,q1⟩ :: l2) (q1 :: qs)
theorem nN.get {kd:Nat} {wy:List (Nat×Nat)} {aK:List (Nat×Nat)} {K0:Nat}:∀ {l0 l1 l2:List C} {q:Nat} {qs:List Nat},nN kd wy aK K0 q l0 l1 l2 qs→l2.length=l1.length∧
  (∀ (n:Nat) c2,l2[n]? = some c2→l1[n]? = some c2 ∨ ∃ (j i:Nat) (r:List (Nat×Nat)) (s1 s2 q1:Nat),wy=(j,i) :: r∧aK[j]? = some (s1,s2)∧q1 ∈ qs∧l0[n]? = some (C.ref ⟨s1,(s2,i) :: r,q1⟩)∧idxOf (K0,q + n) aK=none∧c2= .ref ⟨kd,wy,q1⟩)∧
  ∀ q1 ∈ qs,∃ (n j i:Nat) (r:List (Nat×Nat)) (s1 s2:Nat),wy=(j,i) :: r∧aK[j]? = some (s1,s2)∧l0[n]? = some (C.ref ⟨s1,(s2,i) :: r,q1⟩)
 | _,_,_,_,_, .nil=>⟨rfl,fun j c2 h=>by simp at h,fun q1 h=>by cases h⟩
 | _,_,_,q,qs, .keep hl=>by
  obtain ⟨h1,h2,h3⟩:=hl.get
  refine ⟨by simp [h1],fun n c2 hn=> ?_,fun q1 hq=> ?_⟩
  cases n with
  | zero=>exact .inl hn
  | succ n=>
   rcases h2 n c2 (by simpa using hn) with h|⟨j,i,r,s1,s2,q1,e1,e2,e3,e4,e5,e6⟩
   exact .inl (by simpa using h)
   exact .inr ⟨j,i,r,s1,s2,q1,e1,e2,e3,by simpa using e4,by rw [show q + (n + 1)=q + 1 + n by omega];exact e5,e6⟩
  obtain ⟨n,j,i,r,s1,s2,e1,e2,e3⟩:=h3 q1 hq
  exact ⟨n + 1,j,i,r,s1,s2,e1,e2,by simpa using e3⟩
 | _,_,_,q,_, @nN.rev _ _ _ _ _ c1 l0 l1 l2 qs j i s1 s2 q1 r hw hs hno hl=>by
  obtain ⟨h1,h2,h3⟩:=hl.get
  refine ⟨by simp [h1],fun n c2 hn=> ?_,fun q2 hq=> ?_⟩
  cases n with
  | zero=>
   simp only [List.getElem?_cons_zero,Option.some.injEq] at hn
   exact .inr ⟨j,i,r,s1,s2,q1,hw,hs,List.mem_cons_self,rfl,hno,hn.symm⟩
  | succ n=>
   rcases h2 n c2 (by simpa using hn) with h|⟨j,i,r,s1,s2,q1,e1,e2,e3,e4,e5,e6⟩
   exact .inl (by simpa using h)
   exact .inr ⟨j,i,r,s1,s2,q1,e1,e2,List.mem_cons_of_mem _ e3,by simpa using e4,by rw [show q + (n + 1)=q + 1 + n by omega];exact e5,e6⟩
  rcases List.mem_cons.1 hq with rfl|hq
  exact ⟨0,j,i,r,s1,s2,hw,hs,rfl⟩
  obtain ⟨n,j,i,r,s1,s2,e1,e2,e3⟩:=h3 q2 hq
  exact ⟨n + 1,j,i,r,s1,s2,e1,e2,by simpa using e3⟩
section
variable {P:Program} {w0 w:World} {g0 g:Gh} {st:St} {a:Act}
theorem fX.ZC {o:Oper} {bD:St} {Q:St→Prop} {f:FuncId} {cx:Operand} {args:List Operand} {nL:Array TypeId} {fn:Func}
  (ho:o.op= .call { callee:= .value cx,args:=args.toArray,argTypes:=nL }) (lA:T.cy 0 st cx=some (.fn f [])) (hf:P.funcs[f]? = some fn) (hb:fn.body.isNone=false)
  (hn : (fn.name == "runtime.NumGoroutine") = false) {ts ts' : List TS} (hx : jI st args = some ts) {row CY : List D} {T : Nat → TS} {wy : List (Nat × Nat)} {qs : List Nat} {R : mR → Prop} (hc : j3 P f row wy qs ts' R) (hRR : ∀ r, R r → r.row = CY ∧ r.val = T)
  {aK:List (Nat×Nat)} {kd:Nat} (hC:eZ st ⟨false,row⟩ aK none kd) (hs:aX st aK none cm ts ts') (hok:Wj kd CY.length (T kd)=true)
  {K0:Nat} {m0 m1:Bool} {sK On CZ:List C} (hK0:st.root K0=some ⟨m0,sK⟩) (yy:(Nat.beq K0 kd)=false) (Mh:((st.g_ aK false (row.map fun _=> .hole) kd).cq kd ⟨false,CY.map C.own⟩).root K0=some ⟨m1,On⟩) (ZD:nN kd wy aK K0 0 sK On CZ qs)
  (JN:(((st.g_ aK false (row.map fun _=> .hole) kd).cq kd ⟨false,CY.map C.own⟩).cq K0 ⟨m1,CZ⟩).put o.dst (T kd)=bD) (hq:Q bD):fX P w0 g0 o st Q:=fun a w g hR K Q' hK=>by
 have hne:K0 ≠ kd:=fun e=>by subst e;simp at yy
 have h1:=hR.jI hx
 have h2:=hs.get
 have hv:=ZD.get
 have e3:∀ {j i:Nat} {r:List (Nat×Nat)} {s1 s2 q1:Nat},aK[j]? = some (s1,s2)→(g.hand w.heap.size aK none cm).cv cm ((j,i) :: r) q1=g.cv s1 ((s2,i) :: r) q1:=fun hsj=>by simp only [Gh.hand,if_true,hsj]
 have jo:=hc w (g.hand w.heap.size aK none cm) (args.map a.eval).toArray kd hC.Ww (hR.g_ hC) (fun q1 hq=>by
  obtain ⟨n,j,i,r,s1,s2,e1,e2,e4⟩:=hv.2.2 q1 hq
  subst e1
  rw [e3 e2]
  have h9:=hR.rt.cell K0 _ hK0 n _ e4
  rw [← h9.1]
  exact h9.2) (by simp [h1.1,h2.1]) (fun i t' u hi hu=>by
  obtain ⟨t,h3,h4⟩:=h2.2 i t' hi
  exact hR.Ma hC h4 (h1.2 i t u h3 (by simpa using hu)))
 unfold Oper.wp
 rw [kk hR ho lA hf hb hn w]
 refine jo.mono fun e w' ⟨v,row',r,g',he,⟨Yl,hRr⟩,hG,hkeep⟩=> ?_
 subst he
 subst Yl
 obtain ⟨LI,Og⟩:=hRR r hRr
 have h5:=hG.val
 rw [Og] at h5
 obtain ⟨g2,Cj,hrow,hval,_,LP,hcvo⟩:=hR.zP hC hG
 rw [LI] at hrow hval
 have Zq:=Cj.DI hC.Ww (by rw [oH];exact if_pos rfl) hrow
 have hR4:=Zq.Zz (row':=CZ) Mh hv.1 fun q c' hq=>by
  rcases hv.2.1 q c' hq with h6|⟨j,i,r,s1,s2,q1,e1,e2,e4,e5,e6,e7⟩
  exact .inl h6
  subst e1 e7
  rw [Nat.zero_add] at e6
  have h9:=hR.rt.cell K0 _ hK0 q _ e5
  refine .inr ⟨?_, ?_⟩
  rw [hcvo K0 q hne e6,LP,hkeep q1 e4,e3 e2]
  exact h9.1
  rw [hcvo K0 q hne e6]
  exact h9.2
 exact hK _ _ _ _ hq (JN ▸ hR4.put (hval _ _ hok h5) o.dst)
end
inductive En where
 | set (i:Nat) (t:TS)
 | app (f:TS→TS)
abbrev Rs:=List (Nat×Rt)
abbrev Kn:=List En→Rs→Prop
abbrev BR (b:Bool) (t f:Prop):Prop:= @Bool.rec (fun _=>Prop) f t b
theorem fY {b:Bool} {A B:Prop}:BR b A B ↔ (b=true∧A) ∨ (b=false∧B):=by cases b <;> simp [BR]
theorem bG {b:Bool} {A:Prop} (h:BR b A False):b=true∧A:=by cases b <;> simp_all [BR]
theorem eJ {b:Bool} {A B:Prop} (h1:b=true→A) (h2:b=false→B):BR b A B:=by cases b;exact h2 rfl;exact h1 rfl
def look:List En→Nat→TS
 | [],_=> .one .dead
 | .set j t :: l,i=>if Nat.beq j i then t else look l i
 | .app f :: l,i=>f (look l i)
def aR (n:Nat) (e:List En) (rs:Rs):St:=⟨(List.range n).map (look e),rs⟩
theorem zS {n i:Nat} {e:List En} {rs:Rs} (h:i < n):(aR n e rs).tmps[i]? = some (look e i):=by simp [aR,h]
theorem Ey {n i:Nat} {e:List En} {rs:Rs} {t:TS}:(aR n e rs).put (some i) t=aR n (.set i t :: e) rs:=by
 simp only [St.put,aR,St.mk.injEq,and_true]
 apply List.ext_getElem?
 intro j
 rw [List.getElem?_set,List.getElem?_map,List.getElem?_map]
 by_cases hj:j < n
 by_cases h:i=j
 subst h
 simp [hj,look]
 have hb:Nat.beq i j=false:=Bool.eq_false_iff.2 fun e=>h (Nat.eq_of_beq_eq_true e)
 simp [hj,look,h,hb]
 by_cases h:i=j
 subst h
 simp [hj]
 simp [hj,h]
theorem iq {n:Nat} {e:List En} {rs fq:Rs} {f:TS→TS}:(⟨(aR n e rs).tmps.map f,fq⟩:St)=aR n (.app f :: e) fq:=by
 simp only [aR,List.map_map,St.mk.injEq,and_true]
 rfl
def yF (d:D) (k:D→Prop):Prop:=match d with| .v x=>k (.v x)| .sl s l=>k (.sl s l)| .st l=>k (.st l)| .hole=>k .hole
theorem qA {d:D} {k:D→Prop}:yF d k ↔ k d:=by cases d <;> rfl
def kv:List D→(List D→Prop)→Prop
 | [],k=>k []
 | d :: l,k=>yF d fun d=>kv l fun l=>k (d :: l)
theorem fM:∀ {l:List D} {k:List D→Prop},kv l k ↔ k l
 | [],k=>Iff.rfl
 | d :: l,k=>by simp only [kv,qA,fM]
def yG (c:C) (k:C→Prop):Prop:=match c with
 | .ro d=>yF d fun d=>k (.ro d)
 | .own d=>yF d fun d=>k (.own d)
 | .ref pl=>match pl with|⟨a,p,q⟩=>k (.ref ⟨a,p,q⟩)
 | .dead=>k .dead
theorem qB {c:C} {k:C→Prop}:yG c k ↔ k c:=by cases c <;> simp [yG,qA]
def fu:List C→(List C→Prop)→Prop
 | [],k=>k []
 | c :: l,k=>yG c fun c=>fu l fun l=>k (c :: l)
theorem dw:∀ {l:List C} {k:List C→Prop},fu l k ↔ k l
 | [],k=>Iff.rfl
 | c :: l,k=>by simp only [fu,qB,dw]
def DK (t:TV) (k:TV→Prop):Prop:=match t with
 | .c c=>yG c fun c=>k (.c c)
 | .agg cs=>fu cs fun cs=>k (.agg cs)
 | .ptr pl=>match pl with|⟨a,p,q⟩=>k (.ptr ⟨a,p,q⟩)
 | .bV ds=>k (.bV ds)
 | .CV p=>k (.CV p)
 | .o3 p=>k (.o3 p)
 | .cut pl sz lo hi=>match pl with|⟨a,p,q⟩=>k (.cut ⟨a,p,q⟩ sz lo hi)
 | .dead=>k .dead
theorem Cs {t:TV} {k:TV→Prop}:DK t k ↔ k t:=by cases t <;> simp [DK,qB,dw]
def zT:List TV→(List TV→Prop)→Prop
 | [],k=>k []
 | c :: l,k=>DK c fun c=>zT l fun l=>k (c :: l)
theorem zU:∀ {l:List TV} {k:List TV→Prop},zT l k ↔ k l
 | [],k=>Iff.rfl
 | c :: l,k=>by simp only [zT,Cs,zU]
def mw (t:TS) (k:TS→Prop):Prop:=match t with
 | .one t=>DK t fun t=>k (.one t)
 | .lp ts=>zT ts fun ts=>k (.lp ts)
 | .fn f ts=>k (.fn f ts)
theorem fZ {t:TS} {k:TS→Prop}:mw t k ↔ k t:=by cases t <;> simp [mw,Cs,zU]
def oneOf (a:Nat):List Nat→(Nat→Prop)→Prop
 | [],_=>False
 | c :: l,k=>BR (Nat.beq a c) (k c) (oneOf a l k)
theorem mX {a:Nat} {k:Nat→Prop}:∀ {l:List Nat},oneOf a l k→k a
 | [],h=>h.elim
 | c :: l,h=>by
  rcases fY.1 h with ⟨h1,h2⟩|⟨_,h2⟩
  rw [Nat.eq_of_beq_eq_true h1];exact h2
  exact mX h2
def small:List Nat:=[1,2,15,4,9,3,6,0,5,7,8,10,11,12,13,14,16,17,18,19,20,21,22,23,24,25,26,27,28,29,30]
def DL (ks:List Nat):Rs→(Rs→Prop)→Prop
 | [],k=>k []
 | (a,⟨m,row⟩) :: l,k=>oneOf a ks fun a=>BR m (fu row fun row=>DL ks l fun l=>k ((a,⟨true,row⟩) :: l)) (fu row fun row=>DL ks l fun l=>k ((a,⟨false,row⟩) :: l))
theorem yH {ks:List Nat}:∀ {l:Rs} {k:Rs→Prop},DL ks l k→k l
 | [],k,h=>h
 | (a,⟨m,row⟩) :: l,k,h=>by
  have h1:=mX h
  rcases fY.1 h1 with ⟨rfl,h2⟩|⟨rfl,h2⟩
  exact yH (l:=l) (dw.1 h2)
  exact yH (l:=l) (dw.1 h2)
def Oo:Rs→(List Nat→Prop)→Prop
 | [],k=>k []
 | (a,_) :: l,k=>Oo l fun ks=>k (a :: ks)
theorem Iw:∀ {l:Rs} {k:List Nat→Prop},Oo l k→∃ ks,k ks
 | [],k,h=>⟨_,h⟩
 | (a,_) :: l,k,h=>(Iw (l:=l) h).elim fun ks h=>⟨_,h⟩
def j4 (nk:Nat) (rs fq:Rs) (k:Rs→Prop):Prop:=Oo rs fun ks=>DL (nk :: ks) fq k
theorem gz {nk:Nat} {rs fq:Rs} {k:Rs→Prop} (h:j4 nk rs fq k):k fq:=(Iw h).elim fun _ h=>yH h
def lookW:List En→Nat→(TS→Prop)→Prop
 | [],_,k=>k (.one .dead)
 | .set j t :: l,i,k=>BR (Nat.beq j i) (k t) (lookW l i k)
 | .app f :: l,i,k=>lookW l i fun t=>k (f t)
theorem qC:∀ {e:List En} {i:Nat} {k:TS→Prop},lookW e i k→k (look e i)
 | [],i,k,h=>h
 | .set j t :: l,i,k,h=>by
  rcases fY.1 h with ⟨h1,h2⟩|⟨h1,h2⟩
  simp only [look,h1,if_true];exact h2
  simp only [look,h1,Bool.false_eq_true,if_false];exact qC h2
 | .app f :: l,i,k,h=>qC (k:=fun t=>k (f t)) h
def Oq (n:Nat) (e:List En) (i:Nat) (k:TS→Prop):Prop:=BR (Nat.blt i n) (lookW e i fun t=>mw t k) False
theorem wI {n i:Nat} {e:List En} {rs:Rs} {k:TS→Prop} (h:Oq n e i k):∃ t,(aR n e rs).tmps[i]? = some t∧k t:=by
 obtain ⟨h1,h2⟩:=bG h
 exact ⟨_,zS (Nat.le_of_ble_eq_true h1),fZ.1 (qC h2)⟩
def fT (n:Nat) (e:List En) (z:Nat) (x:Operand) (k:TS→Prop):Prop:=match x with
 | .tmp i=>Oq n e i k
 | .const v=>match v with
  | .bool b=>k (V (.bool b))
  | .int kd m=>k (V (.int kd m))
  | .string s=>k (V (.string s))
  | .slice none 0 0=>k (.one (.c (.ro (.sl z []))))
  | _=>False
 | .func f=>k (.fn f [])
 | .global _=>False
theorem bR {n z:Nat} {e:List En} {rs:Rs} {x:Operand} {k:TS→Prop} (h:fT n e z x k):∃ t,T.cy z (aR n e rs) x=some t∧k t:=by
 unfold fT at h
 split at h
 exact wI h
 split at h
 exact ⟨_,rfl,h⟩
 exact ⟨_,rfl,h⟩
 exact ⟨_,rfl,h⟩
 exact ⟨_,rfl,h⟩
 exact h.elim
 exact ⟨_,rfl,h⟩
 exact h.elim
def Ix (n:Nat) (e:List En):List Operand→(List TS→Prop)→Prop
 | [],k=>k []
 | x :: l,k=>fT n e 0 x fun t=>Ix n e l fun ts=>k (t :: ts)
theorem vn {n:Nat} {e:List En} {rs:Rs}:∀ {l:List Operand} {k:List TS→Prop},Ix n e l k→∃ ts,jI (aR n e rs) l=some ts∧k ts
 | [],k,h=>⟨[],rfl,h⟩
 | x :: l,k,h=>by
  obtain ⟨t,h1,h2⟩:=bR (rs:=rs) h
  obtain ⟨ts,h3,h4⟩:=vn (rs:=rs) h2
  exact ⟨t :: ts,by simp [jI,h1,h3],h4⟩
def qD {α:Type}:List α→Nat→(α→Prop)→Prop
 | [],_,_=>False
 | x :: _,0,k=>k x
 | _ :: l,n + 1,k=>qD l n k
theorem hJ {α:Type}:∀ {l:List α} {n:Nat} {k: α→Prop},qD l n k→∃ x,l[n]? = some x∧k x
 | [],_,_,h=>h.elim
 | x :: _,0,k,h=>⟨x,rfl,h⟩
 | _ :: l,n + 1,k,h=>hJ (l:=l) h
def Bu {α:Type}:List α→Nat→ α→(List α→Prop)→Prop
 | [],_,_,_=>False
 | _ :: l,0,x,k=>k (x :: l)
 | y :: l,n + 1,x,k=>Bu l n x fun l=>k (y :: l)
theorem lZ {α:Type}:∀ {l:List α} {n:Nat} {x: α} {k:List α→Prop},Bu l n x k→n < l.length∧k (l.set n x)
 | [],_,_,_,h=>h.elim
 | _ :: l,0,x,k,h=>⟨by simp,h⟩
 | y :: l,n + 1,x,k,h=>by
  obtain ⟨h1,h2⟩:=lZ (l:=l) h
  exact ⟨by simp;omega,h2⟩
def pz:Rs→Nat→(Bool→List C→Prop)→Prop
 | [],_,_=>False
 | (a,⟨m,row⟩) :: l,i,k=>BR (Nat.beq a i) (k m row) (pz l i k)
theorem ir {n:Nat} {e:List En}:∀ {rs:Rs} {i:Nat} {k:Bool→List C→Prop},pz rs i k→∃ m row,(aR n e rs).root i=some ⟨m,row⟩∧k m row
 | [],_,_,h=>h.elim
 | (a,⟨m,row⟩) :: l,i,k,h=>by
  rcases fY.1 h with ⟨h1,h2⟩|⟨h1,h2⟩
  exact ⟨m,row,by simp [St.root,aR,Nat.eq_of_beq_eq_true h1],h2⟩
  obtain ⟨m',row',h3,h4⟩:=ir (n:=n) (e:=e) (rs:=l) h2
  refine ⟨m',row', ?_,h4⟩
  have hne:¬ a=i:=fun h=>by subst h;simp at h1
  simp only [St.root,aR] at h3 ⊢
  rw [List.find?_cons_of_neg (by simpa using hne)]
  exact h3
abbrev WG (ds:List D) (i:Nat) (k:D→Prop):Prop:= @Option.rec D (fun _=>Prop) False k (ds[i]?)
theorem yI {ds:List D} {i:Nat} {k:D→Prop} (h:WG ds i k):∃ d,ds[i]? = some d∧k d:=by
 unfold WG at h
 generalize hd:ds[i]? = x at h
 cases x with
 | none=>exact h.elim
 | some d=>exact ⟨d,rfl,h⟩
theorem xT {ds:List D} {i:Nat} {d:D} {k:D→Prop} (h:ds[i]? = some d) (c:k d): @Option.rec D (fun _=>Prop) False k (ds[i]?):=by rw [h];exact c
def Mi (d:D) (k:List D→Prop):Prop:=match d with
 | .st ds=>kv ds k
 | .v x=>k [.v x]
 | .sl s l=>k [.sl s l]
 | .hole=>k [.hole]
theorem wK {d:D} {k:List D→Prop} (h:Mi d k):k d.row:=by cases d <;> simpa [Mi,D.row,fM] using h
def Tp (q i:Nat) (r:List D) (f:List D→Prop):Prop:=qD r q fun d=>match d with
 | .sl _ ds=>WG ds i fun d=>Mi d f
 | _=>False
def JY (r:List D) (p:List (Nat×Nat)) (k:List D→Prop):Prop:=
 @List.rec (Nat×Nat) (fun _=>List D→(List D→Prop)→Prop) (fun r k=>k r) (fun qi _ ih r k=>match qi with
  | (q,i)=>Tp q i r fun row=>ih row k) p r k
theorem Mj {r:List D} {q i:Nat} {p:List (Nat×Nat)} {k:List D→Prop} (h:JY r ((q,i) :: p) k):Tp q i r fun row=>JY row p k:=h
theorem Iy:∀ {p:List (Nat×Nat)} {r:List D} {k:List D→Prop},JY r p k→∃ row,rowAt r p=some row∧k row
 | [],r,k,h=>⟨r,rfl,h⟩
 | (q,i) :: p,r,k,h=>by
  have h:=Mj h
  unfold Tp at h
  obtain ⟨d,h1,h2⟩:=hJ h
  split at h2
  rename_i sz ds
  obtain ⟨d,h3,h4⟩:=yI h2
  obtain ⟨row,h5,h6⟩:=Iy (wK h4)
  exact ⟨row,by simp [rowAt,h1,h3,h5],h6⟩
  exact h2.elim
def xU:List D→(List C→Prop)→Prop
 | [],k=>k []
 | d :: l,k=>yF d fun d=>xU l fun l=>k (.own d :: l)
theorem mY:∀ {l:List D} {k:List C→Prop},xU l k→k (l.map C.own)
 | [],k,h=>h
 | d :: l,k,h=>mY (l:=l) (qA.1 h)
def atW (rs:Rs) (a:Nat) (p:List (Nat×Nat)) (k:Bool→List C→Prop):Prop:=pz rs a fun m row=>match p with
 | []=>k m row
 | (q1,i) :: p=>qD row q1 fun c=>match c with
  | .own d=>(match d with
   | .sl _ ds=>WG ds i fun d=>Mi d fun r=>JY r p fun r=>xU r (k true)
   | _=>False)
  | _=>False
theorem Ot {n a:Nat} {e:List En} {rs:Rs} {p:List (Nat×Nat)} {k:Bool→List C→Prop} (h:atW rs a p k):∃ m row,(∀ q,(aR n e rs).cellAt ⟨a,p,q⟩=row[q]?)∧(∀ q,(aR n e rs).gv ⟨a,p,q⟩=m)∧k m row:=by
 obtain ⟨m,row,h1,h2⟩:=ir (n:=n) (e:=e) h
 cases p with
 | nil=>exact ⟨m,row,fun q=>by simp [St.cellAt,h1],fun q=>by simp [St.gv,h1],h2⟩
 | cons x p=>
  obtain ⟨q1,i⟩:=x
  obtain ⟨c,h3,h4⟩:=hJ h2
  split at h4
  split at h4
  obtain ⟨d,h5,h6⟩:=yI h4
  obtain ⟨r,h7,h8⟩:=Iy (wK h6)
  refine ⟨true,_,fun q=> ?_,fun q=>by simp [St.gv],mY h8⟩
  simp only [St.cellAt,h1,h3,h5,h7,List.getElem?_map]
  cases r[q]? <;> rfl
  exact h4.elim
  exact h4.elim
def kE (rs:Rs) (a:Nat) (p:List (Nat×Nat)) (q:Nat) (k:Bool→C→Prop):Prop:=atW rs a p fun m row=>qD row q fun c=>yG c (k m)
theorem eU {n a q:Nat} {e:List En} {rs:Rs} {p:List (Nat×Nat)} {k:Bool→C→Prop} (h:kE rs a p q k):∃ m c,(aR n e rs).cellAt ⟨a,p,q⟩=some c∧(aR n e rs).gv ⟨a,p,q⟩=m∧k m c:=by
 obtain ⟨m,row,h1,h2,h3⟩:=Ot (n:=n) (e:=e) h
 obtain ⟨c,h4,h5⟩:=hJ h3
 exact ⟨m,c,by rw [h1,h4],h2 q,qB.1 h5⟩
def Mk (a:Nat) (p:List (Nat×Nat)) (q:Nat) (c:C) (k:C→Prop):Prop:=match c with
 | .ro d=>k (.ro d)
 | .own d=>(match d with
  | .v x=>k (.ro (.v x))
  | .sl _ _=>k (.ref ⟨a,p,q⟩)
  | .st _=>k .dead
  | .hole=>k .dead)
 | .ref pl=>k (.ref pl)
 | .dead=>k .dead
theorem zW {a q:Nat} {p:List (Nat×Nat)} {c:C} {k:C→Prop} (h:Mk a p q c k):k (N3 ⟨a,p,q⟩ c):=by
 cases c with
 | own d=>cases d <;> exact h
 | ro d=>exact h
 | ref pl=>exact h
 | dead=>exact h
def Ou (a:Nat) (p:List (Nat×Nat)):List C→Nat→Nat→(List C→Prop)→Prop
 | _,_,0,k=>k []
 | [],_,_ + 1,_=>False
 | c :: l,q,n + 1,k=>yG c fun c=>Mk a p q c fun c=>Ou a p l (q + 1) n fun l=>k (c :: l)
theorem Iz {n a:Nat} {e:List En} {rs:Rs} {p:List (Nat×Nat)} {row:List C} (hr:∀ q,(aR n e rs).cellAt ⟨a,p,q⟩=row[q]?):∀ {m:Nat} {l:List C} {q:Nat} {k:List C→Prop},row.drop q=l→Ou a p l q m k→∃ l,(aR n e rs).kT a p q m=some l∧k l
 | 0,l,q,k,_,h=>⟨[],rfl,by cases l <;> exact h⟩
 | m + 1,[],q,k,_,h=>h.elim
 | m + 1,c :: l,q,k,hl,h=>by
  have h1:row[q]? = some c:=by rw [← List.head?_drop,hl];rfl
  have h2:row.drop (q + 1)=l:=by rw [← List.tail_drop,hl];rfl
  obtain ⟨l',h3,h4⟩:=Iz hr (m:=m) (l:=l) (q:=q + 1) h2 (zW (qB.1 h))
  exact ⟨_,by rw [St.kT,hr,h1];simp only [h3],h4⟩
def IA {α:Type}:List α→Nat→(List α→Prop)→Prop
 | l,0,k=>k l
 | [],_ + 1,k=>k []
 | _ :: l,n + 1,k=>IA l n k
theorem vo {α:Type}:∀ {l:List α} {n:Nat} {k:List α→Prop},IA l n k→k (l.drop n)
 | [],0,k,h=>h
 | [],n + 1,k,h=>h
 | x :: l,0,k,h=>h
 | x :: l,n + 1,k,h=>vo (l:=l) h
def Ov (rs:Rs) (a:Nat) (p:List (Nat×Nat)) (q n:Nat) (k:Bool→List C→Prop):Prop:=atW rs a p fun m row=>IA row q fun l=>Ou a p l q n (k m)
theorem IB {n a c q:Nat} {e:List En} {rs:Rs} {p:List (Nat×Nat)} {k:Bool→List C→Prop} (h:Ov rs a p q c k):∃ l,(aR n e rs).kT a p q c=some l∧k ((aR n e rs).gv ⟨a,p,q⟩) l:=by
 obtain ⟨m,row,h1,h2,h3⟩:=Ot (n:=n) (e:=e) h
 obtain ⟨l,h4,h5⟩:=Iz h1 rfl (vo h3)
 exact ⟨l,h4,by rw [h2];exact h5⟩
end Go.Proofs.YtdliggkohdnipaaGreat.T
