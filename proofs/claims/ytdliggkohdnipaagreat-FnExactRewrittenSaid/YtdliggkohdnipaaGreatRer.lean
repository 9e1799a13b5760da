import Derived.Test.YtdliggkohdnipaaGreatRcr
set_option linter.unusedVariables false
set_option linter.unusedSimpArgs false
namespace Go.Proofs.YtdliggkohdnipaaGreat.T
open Go
section
variable {c:C} {K:Kn} {p:List (Nat×Nat)} {row:List C} {ds:List D} {kl:List Nat} {b k n q sz:Nat} {rs:Rs} {r:Rt}
def Lg (n:Nat) (K:Kn):St→Prop:=fun st=>∃ e rs,st=aR n e rs∧K e rs
theorem Lg.mk {e:List En} (h:K e rs):Lg n K (aR n e rs):=⟨e,rs,rfl,h⟩
theorem Lg.put {e:List En} {i:Nat} {t:TS} (h:K (.set i t :: e) rs):Lg n K ((aR n e rs).put (some i) t):=by rw [Ey];exact .mk h
def Qd (k:Nat):TS→TS:=TS.kill (fun pl=>pl.k == k) (fun pl=>pl.k == k)
def OE (rs:Rs) (k:Nat) (r:Rt):Rs:=((⟨[],rs⟩:St).fresh k r).roots
theorem TE {e:List En}:(aR n e rs).fresh k r=aR n (.app (Qd k) :: e) (OE rs k r):=by
 simp only [St.fresh,St.kill,St.cq,OE]
 exact iq
def sc (k:Nat) (m:Bool) (row:List C) (e:List En) (rs:Rs) (K:Kn):Prop:=BR (Nat.blt k 1000000) (j4 k rs (OE rs k ⟨m,row⟩) fun fq=>K (.app (Qd k) :: e) fq) False
theorem wN {m:Bool} {e:List En} (h:sc k m row e rs K):k < 1000000∧Lg n K ((aR n e rs).fresh k ⟨m,row⟩):=by
 obtain ⟨h1,h2⟩:=bG h
 exact ⟨Nat.le_of_ble_eq_true h1,by rw [TE];exact .mk (gz h2)⟩
def TF (kl:List Nat):TS→TS:=TS.kill (fun pl=>kl.contains pl.k) (fun pl=>kl.contains pl.k)
def Bv (rs:Rs) (kl:List Nat) (k:Nat) (r:Rt):Rs:=((⟨[],rs⟩:St).renew kl k r).roots
theorem TG {e:List En}:(aR n e rs).renew kl k r=aR n (.app (TF kl) :: e) (Bv rs kl k r):=by
 simp only [St.renew,St.kill,Bv]
 exact iq
def J5 (kl:List Nat) (k:Nat) (row:List C) (e:List En) (rs:Rs) (K:Kn):Prop:=BR (Nat.blt k 1000000) (j4 k rs (Bv rs kl k ⟨false,row⟩) fun fq=>K (.app (TF kl) :: e) fq) False
theorem Bw {e:List En} (h:J5 kl k row e rs K):k < 1000000∧Lg n K ((aR n e rs).renew kl k ⟨false,row⟩):=by
 obtain ⟨h1,h2⟩:=bG h
 exact ⟨Nat.le_of_ble_eq_true h1,by rw [TG];exact .mk (gz h2)⟩
def J6 (kl:List Nat) (k sz:Nat) (ds:List D) (e:List En) (rs:Rs) (K:Kn):Prop:=J5 kl k [.own (.sl sz ds)] e rs fun e rs=>K (.set k (.one (.c (.ref ⟨k,[],0⟩))) :: e) rs
theorem wO {e:List En} (h:J6 kl k sz ds e rs K):k < 1000000∧Lg n K (((aR n e rs).renew kl k ⟨false,[.own (.sl sz ds)]⟩).put (some k) (.one (.c (.ref ⟨k,[],0⟩)))):=by
 obtain ⟨h1,e',fq,h2,h3⟩:=Bw (n:=n) h
 exact ⟨h1,by rw [h2];exact .put h3⟩
def Yp (k:Nat):TS→TS:=TS.kill (DJ k) (zG k)
theorem OF {e:List En}:(aR n e rs).wH k r=aR n (.app (Yp k) :: e) (Bv rs [k] k r):=by
 simp only [St.wH,St.renew,St.kill,Bv]
 exact iq
def zY (k sz:Nat) (ds:List D) (e:List En) (rs:Rs) (K:Kn):Prop:=BR (Nat.blt k 1000000) (j4 k rs (Bv rs [k] k ⟨false,[.own (.sl sz ds)]⟩) fun fq=>K (.app (Yp k) :: e) fq) False
theorem Mq {e:List En} (h:zY k sz ds e rs K):k < 1000000∧Lg n K ((aR n e rs).wH k ⟨false,[.own (.sl sz ds)]⟩):=by
 obtain ⟨h1,h2⟩:=bG h
 exact ⟨Nat.le_of_ble_eq_true h1,by rw [OF];exact .mk (gz h2)⟩
def J7 (e:D) (er:List D) (k:D→Prop):Prop:=match e with
 | .st _=>k (.st er)
 | .v x=>(match er with| []=>k (.v x)|y :: _=>k y)
 | .sl s l=>(match er with| []=>k (.sl s l)|y :: _=>k y)
 | .hole=>(match er with| []=>k .hole|y :: _=>k y)
theorem Bx {e:D} {er:List D} {k:D→Prop} (h:J7 e er k):k (e.pn er):=by
 cases e <;> cases er <;> exact h
def OG:List D→List (Nat×Nat)→Nat→D→(List D→Prop)→Prop
 | row,[],q,d,k=>Bu row q d k
 | row,(q,i) :: p,q',d,k=>qD row q fun c=>match c with
  | .sl sz ds=>WG ds i fun e=>Mi e fun er=>OG er p q' d fun Bi=>J7 e Bi fun e'=>Bu row q (.sl sz (ds.set i e')) k
  | _=>False
theorem IF:∀ {p:List (Nat×Nat)} {row:List D} {q:Nat} {d:D} {k:List D→Prop},OG row p q d k→∃ row',setAt row p q d=some row'∧k row'
 | [],row,q,d,k,h=>by
  obtain ⟨h1,h2⟩:=lZ h
  exact ⟨_,by simp [setAt,h1],h2⟩
 | (q,i) :: p,row,q',d,k,h=>by
  obtain ⟨c,h1,h2⟩:=hJ h
  split at h2
  obtain ⟨e,h3,h4⟩:=yI h2
  obtain ⟨Bi,h5,h6⟩:=IF (p:=p) (wK h4)
  obtain ⟨h7,h8⟩:=lZ (Bx h6)
  exact ⟨_,by simp [setAt,h1,h3,h5],h8⟩
  exact h2.elim
def mZ (row:List C) (p:List (Nat×Nat)) (q:Nat) (c:C) (k:List C→Prop):Prop:=match p with
 | []=>Bu row q c k
 | (q1,i) :: r=>(match c with
  | .own d=>qD row q1 fun c1=>(match c1 with
   | .own d1=>(match d1 with
    | .sl sz ds=>WG ds i fun e=>Mi e fun er=>OG er r q d fun Bi=>J7 e Bi fun e'=>Bu row q1 (.own (.sl sz (ds.set i e'))) k
    | _=>False)
   | _=>False)
  | _=>False)
theorem jO {k:List C→Prop} (h:mZ row p q c k):∃ row',setRow row p q c=some row'∧k row':=by
 cases p with
 | nil=>
  obtain ⟨h1,h2⟩:=lZ h
  exact ⟨_,by simp [setRow,h1],h2⟩
 | cons x r=>
  obtain ⟨q1,i⟩:=x
  unfold mZ at h
  simp only at h
  split at h
  obtain ⟨c1,h1,h2⟩:=hJ h
  split at h2
  split at h2
  obtain ⟨e,h3,h4⟩:=yI h2
  obtain ⟨Bi,h5,h6⟩:=IF (wK h4)
  obtain ⟨h7,h8⟩:=lZ (Bx h6)
  exact ⟨_,by simp [setRow,h1,h3,h5],h8⟩
  exact h2.elim
  exact h2.elim
  exact h.elim
def mz (rs:Rs) (b:Nat) (p:List (Nat×Nat)) (q:Nat) (m:Bool) (row:List C) (s:Option (Nat×Nat)):Rs:=((⟨[],rs⟩:St).wrote b p q m row s).roots
def lM (b:Nat) (p:List (Nat×Nat)) (q:Nat):TS→TS:=TS.kill (dP b p q) (u7 b p q)
theorem zZ {n:Nat} {e:List En} {rs:Rs} {b q:Nat} {p:List (Nat×Nat)} {m:Bool} {row:List C} {s:Option (Nat×Nat)}:
  (aR n e rs).wrote b p q m row s=aR n (.app (lM b p q) :: e) (mz rs b p q m row s):=by
 unfold mz
 cases s with
 | none=>
  simp only [St.wrote,St.kill,St.cq]
  exact iq
 | some s=>
  obtain ⟨k1,q1⟩:=s
  have h1:∀ l:List TS,(((⟨l,rs⟩:St).kill (dP b p q) (u7 b p q)).cq b ⟨m,row⟩).root k1=(((⟨[],rs⟩:St).kill (dP b p q) (u7 b p q)).cq b ⟨m,row⟩).root k1:=fun l=>rfl
  simp only [St.wrote]
  rw [show (aR n e rs)=⟨(aR n e rs).tmps,rs⟩ from rfl,h1]
  split
  simp only [St.kill,St.cq]
  exact iq
  simp only [St.kill,St.cq]
  exact iq
def tM (b:Nat) (p:List (Nat×Nat)) (q:Nat) (c:C) (e:List En) (rs:Rs) (K:Kn):Prop:=pz rs b fun m row=>fu (row.map (C.kill (dP b p q))) fun row=>match c with
 | .ro d=>(match d with
  | .v x=>mZ row p q (.own (.v x)) fun row=>j4 b rs (mz rs b p q m row none) fun rs=>K (.app (lM b p q) :: e) rs
  | .sl sz ds=>(match p with
   | []=>mZ row [] q (.ro (.sl sz ds)) fun row=>j4 b rs (mz rs b [] q m row none) fun rs=>K (.app (lM b [] q) :: e) rs
   | _=>False)
  | _=>False)
 | .ref s=>(match s with
  | ⟨sk,sp,sq⟩=>(match sp with
   | []=>BR (Nat.beq sk b) False (kE rs sk [] sq fun _ c=>match c with
    | .own d=>(match d with
     | .v x=>mZ row p q (.own (.v x)) fun row=>j4 b rs (mz rs b p q m row (some (sk,sq))) fun rs=>K (.app (lM b p q) :: e) rs
     | .sl sz ds=>mZ row p q (.own (.sl sz ds)) fun row=>j4 b rs (mz rs b p q m row (some (sk,sq))) fun rs=>K (.app (lM b p q) :: e) rs
     | _=>False)
    | .ro d=>(match p with
     | []=>mZ row [] q (.ref ⟨sk,[],sq⟩) fun row=>j4 b rs (mz rs b [] q m row none) fun rs=>K (.app (lM b [] q) :: e) rs
     | _=>False)
    | .ref _=>(match p with
     | []=>mZ row [] q (.ref ⟨sk,[],sq⟩) fun row=>j4 b rs (mz rs b [] q m row none) fun rs=>K (.app (lM b [] q) :: e) rs
     | _=>False)
    | _=>False)
   | x :: sp=>(match p with
    | []=>BR (dP b [] q ⟨sk,x :: sp,sq⟩) False (mZ row [] q (.ref ⟨sk,x :: sp,sq⟩) fun row=>j4 b rs (mz rs b [] q m row none) fun rs=>K (.app (lM b [] q) :: e) rs)
    | _=>False)))
 | _=>False
theorem Mr {s:Pl} (h:s.k ≠ b):dP b [] q s=false:=by simp [dP,h]
theorem pE {b:Bool} {A:Prop} (h:BR b False A):b=false∧A:=by cases b <;> simp_all [BR]
theorem qE {e:List En} (h:tM b p q c e rs K):∃ bD,(aR n e rs).dD ⟨b,p,q⟩ c=some bD∧Lg n K bD:=by
 obtain ⟨m,row,h1,h2⟩:=ir (n:=n) (e:=e) h
 have h3:=dw.1 h2
 have fin:∀ {row':List C} {s:Option (Nat×Nat)},(j4 b rs (mz rs b p q m row' s) fun rs=>K (.app (lM b p q) :: e) rs)→Lg n K ((aR n e rs).wrote b p q m row' s):=fun hn=>by
  rw [zZ]
  exact .mk (gz hn)
 split at h3
 split at h3
 obtain ⟨row',h4,h5⟩:=jO h3
 exact ⟨_,by simp [St.dD,h1,h4],fin h5⟩
 split at h3
 obtain ⟨row',h4,h5⟩:=jO h3
 exact ⟨_,by simp [St.dD,h1,h4],fin h5⟩
 exact h3.elim
 exact h3.elim
 rename_i s
 obtain ⟨sk,sp,sq⟩:=s
 simp only at h3
 split at h3
 obtain ⟨h4,h5⟩:=pE h3
 have hne:sk ≠ b:=fun e=>by subst e;simp at h4
 obtain ⟨m',c,h6,_,h7⟩:=eU (n:=n) (e:=e) h5
 split at h7
 split at h7
 obtain ⟨row',h8,h9⟩:=jO h7
 exact ⟨_,by simp [St.dD,h1,hne,h6,h8],fin h9⟩
 obtain ⟨row',h8,h9⟩:=jO h7
 exact ⟨_,by simp [St.dD,h1,hne,h6,h8],fin h9⟩
 exact h7.elim
 split at h7
 obtain ⟨row',h8,h9⟩:=jO h7
 exact ⟨_,by simp [St.dD,h1,hne,h6,h8,Mr (b:=b) (q:=q) (s:=⟨sk,[],sq⟩) hne],fin h9⟩
 exact h7.elim
 split at h7
 obtain ⟨row',h8,h9⟩:=jO h7
 exact ⟨_,by simp [St.dD,h1,hne,h6,h8,Mr (b:=b) (q:=q) (s:=⟨sk,[],sq⟩) hne],fin h9⟩
 exact h7.elim
 exact h7.elim
 split at h3
 obtain ⟨h4,h5⟩:=pE h3
 obtain ⟨row',h8,h9⟩:=jO h5
 exact ⟨_,by simp [St.dD,h1,h4,h8],fin h9⟩
 exact h3.elim
 exact h3.elim
def TH (cs:List C) (k:Prop):Prop:=match cs with
 | []=>k
 | _ :: _=>False
def WN (b:Nat) (p:List (Nat×Nat)) (f:List C→Nat→List En→Rs→Kn→Prop) (cs:List C) (q:Nat) (e:List En) (rs:Rs) (K:Kn):Prop:=match cs with
 | []=>K e rs
 | c :: cs=>kE rs b p q fun _ _=>tM b p q c e rs fun e rs=>fu (cs.map (C.kill (dP b p q))) fun cs=>f cs (q + 1) e rs K
def J8 (b:Nat) (p:List (Nat×Nat)) (n:Nat):List C→Nat→List En→Rs→Kn→Prop:=
 @Nat.rec (fun _=>List C→Nat→List En→Rs→Kn→Prop) (fun cs _ e rs K=>TH cs (K e rs)) (fun _ ih cs q e rs K=>WN b p ih cs q e rs K) n
theorem tN {b:Nat} {p:List (Nat×Nat)} {g:C→C}:∀ {cs:List C} {f:C→C} {q:Nat} {st:St},St.storeAll b p (cs.map g) f q st=St.storeAll b p cs (fun c=>f (g c)) q st
 | [],f,q,st=>rfl
 | c :: cs,f,q,st=>by
  simp only [St.storeAll,List.map_cons]
  cases st.cellAt ⟨b,p,q⟩ with
  | none=>rfl
  | some c0=>
   simp only
   cases st.dD ⟨b,p,q⟩ (f (g c)) with
   | none=>rfl
   | some bD=>
    simp only
    rw [tN (cs:=cs)]
theorem EE {n b:Nat} {p:List (Nat×Nat)}:∀ {m:Nat} {cs:List C} {q:Nat} {e:List En} {rs:Rs} {K:Kn},J8 b p m cs q e rs K→∃ bD,St.storeAll b p cs id q (aR n e rs)=some bD∧Lg n K bD
 | m,[],q,e,rs,K,h=>⟨_,rfl, .mk (by cases m <;> exact h)⟩
 | 0,_ :: _,q,e,rs,K,h=>h.elim
 | m + 1,c :: cs,q,e,rs,K,h=>by
  have h:kE rs b p q fun _ _=>tM b p q c e rs fun e rs=>fu (cs.map (C.kill (dP b p q))) fun cs=>J8 b p m cs (q + 1) e rs K:=h
  obtain ⟨_,c0,h1,_,h2⟩:=eU (n:=n) (e:=e) h
  obtain ⟨bD,h3,e',fq,h4,h5⟩:=qE (n:=n) h2
  subst h4
  obtain ⟨wB,h6,h7⟩:=EE (n:=n) (m:=m) (cs:=cs.map (C.kill (dP b p q))) (dw.1 h5)
  refine ⟨wB, ?_,h7⟩
  simp only [St.storeAll,h1,id_eq,h3]
  rw [tN] at h6
  exact h6
end
def WO (m:Bool) (P:Program) (w0:World) (g0:Gh) (o:Oper) (st:St) (Q:St→Prop):Prop:=if m then rq P w0 g0 o st Q else fX P w0 g0 o st Q
theorem rq.t {P:Program} {w0:World} {g0:Gh} {o:Oper} {st:St} {Q:St→Prop} (h:rq P w0 g0 o st Q):fX P w0 g0 o st Q:=fun a w g hR K Q' hK=>by
 have h1:=h a w g hR K hK
 unfold Oper.wp
 generalize (execOp a.eval o).run P w=r at h1
 cases r with
 | halt x w'=>exact h1.elim
 | ok x w'=>
  cases x <;> simp only [Cn] at h1 <;> simp only [Oper.upon]
  case value v=>exact h1.2
  case skip=>exact h1.2
  case enter f args=>exact h1.2.mono fun e w'' ⟨v,h2,h3,h4⟩=>by subst h2;exact h4
theorem WO.of {m:Bool} {P:Program} {w0:World} {g0:Gh} {o:Oper} {st:St} {Q:St→Prop} (h:rq P w0 g0 o st Q):WO m P w0 g0 o st Q:=by
 unfold WO
 split
 exact h
 exact h.t
theorem fX.takeN {P:Program} {w0:World} {g0:Gh} {o:Oper} {st bD:St} {Q:St→Prop} {k1:Nat} {p1:List (Nat×Nat)} {q1 L:Nat} (ht:st.takeN k1 p1 q1 L=some bD) (hne:k1 ≠ L) (hL:L < 1000000) (h:fX P w0 g0 o bD Q):fX P w0 g0 o st Q:=
 fun a w g hR K Q' hK=>by
  obtain ⟨g1,h1⟩:=hR.takeN ht hne hL
  exact h a w g1 h1 K Q' hK
def TI (rs:Rs) (L sz:Nat) (ds:List D) (b:Nat) (m:Bool) (row:List C):Rs:=(((⟨[],rs⟩:St).fresh L ⟨false,[.own (.sl sz ds)]⟩).cq b ⟨m,row⟩).roots
def TJ (b:Nat) (p:List (Nat×Nat)) (q L:Nat) (e:List En) (rs:Rs) (K:Kn):Prop:=BR (Nat.beq b L) False (pz rs b fun m row=>kE rs b p q fun _ c=>match c with
 | .own d=>(match d with
  | .sl sz ds=>fu (row.map (C.kill fun pl=>pl.k == L)) fun row=>mZ row p q (.own .hole) fun row=>j4 L rs (TI rs L sz ds b m row) fun rs=>K (.app (Ym b p q L) :: .app (Qd L) :: e) rs
  | _=>False)
 | _=>False)
theorem Ms {n b q L:Nat} {p:List (Nat×Nat)} {e:List En} {rs:Rs} {K:Kn} (h:TJ b p q L e rs K):b ≠ L∧∃ bD,(aR n e rs).takeN b p q L=some bD∧Lg n K bD:=by
 obtain ⟨h0,h⟩:=pE h
 refine ⟨fun e=>by subst e;simp at h0, ?_⟩
 obtain ⟨m,row,h1,h2⟩:=ir (n:=n) (e:=e) h
 obtain ⟨_,c,h3,_,h4⟩:=eU (n:=n) (e:=e) h2
 split at h4
 split at h4
 rename_i sz ds
 obtain ⟨row',h5,h6⟩:=jO (dw.1 h4)
 refine ⟨_,by simp only [St.takeN,h1,h3,h5];rfl, ?_⟩
 have h7:=gz h6
 have h8:(⟨(((aR n e rs).fresh L ⟨false,[.own (.sl sz ds)]⟩).cq b ⟨m,row'⟩).tmps.map (Ym b p q L),(((aR n e rs).fresh L ⟨false,[.own (.sl sz ds)]⟩).cq b ⟨m,row'⟩).roots⟩:St)=
   aR n (.app (Ym b p q L) :: .app (Qd L) :: e) (TI rs L sz ds b m row'):=by
  rw [← iq (rs:=(TI rs L sz ds b m row')), ← iq (rs:=rs)]
  rfl
 exact ⟨_,_,h8,h7⟩
 exact h4.elim
 exact h4.elim
inductive TK (n n':Int) (k:Nat→Prop):Prop
 | mk (m:Nat) (h:n=m) (h':n'=m) (hm:m ≤ 134217728) (c:k m)
structure ZN (ds ns:List D) (k:Prop):Prop where
 plain:∀ d ∈ ns,gZ d
 len:ds.length + ns.length ≤ 134217728
 c:k
structure ZO (ds ns:List D) (k:Prop):Prop where
 nh:∀ d ∈ ns,∀ c ∈ d.row,c ≠ .hole
 len:ds.length + ns.length ≤ 134217728
 c:k
def TM (P:Program) (t:TypeId) (k:Nat→Prop):Prop:=match P.underlying t with
 | some (.slice e)=>rF P e k
 | _=>k 1
theorem J9 {P:Program} {t:TypeId} {k:Nat→Prop} (h:TM P t k):∃ z,k z:=by
 unfold TM at h
 split at h
 obtain ⟨s,_,h⟩:=j5 h;exact ⟨s,h⟩
 exact ⟨1,h⟩
def IG (P:Program) (t:TypeId) (k:TypeInfo→Value→List D→Prop):Prop:=match P.info? t with
 | some i=>(match i.zero with
  | some z=>(match xR P 6 t with
   | some row=>kv row fun row=>BR (TD z.cells.toList row) (k i z row) False
   | none=>False)
  | none=>False)
 | none=>False
theorem z_ {P:Program} {t:TypeId} {k:TypeInfo→Value→List D→Prop} (h:IG P t k):∃ i z row,P.info? t=some i∧i.zero=some z∧xR P 6 t=some row∧z.cells.toList=row.map zeroV∧row.all r9=true∧k i z row:=by
 unfold IG at h
 split at h
 rename_i i h1
 split at h
 rename_i z h2
 split at h
 rename_i row h3
 obtain ⟨h4,h5⟩:=bG (fM.1 h)
 exact ⟨i,z,row,h1,h2,h3,(zX h4).1,(zX h4).2,h5⟩
 exact h.elim
 exact h.elim
 exact h.elim
def ZP:List D→Bool
 | []=>true
 | d :: l=>(match d with| .v _=>true|_=>false) && ZP l
def J_ (dst:Option Nat) (k:Nat→Prop):Prop:=match dst with|some i=>k i|none=>False
theorem rG {dst:Option Nat} {k:Nat→Prop} (h:J_ dst k):∃ i,dst=some i∧k i:=by
 cases dst with
 | none=>exact h.elim
 | some i=>exact ⟨i,rfl,h⟩
def EF (k:Nat):List C→(List C→Prop)→Prop
 | [],K=>K []
 | c :: l,K=>yG (LR k c) fun c=>EF k l fun l=>K (c :: l)
theorem wP {k:Nat}:∀ {l:List C} {K:List C→Prop},EF k l K→K (l.map (LR k))
 | [],K,h=>h
 | c :: l,K,h=>wP (l:=l) (qB.1 h)
def boxW (P:Program) (n:Nat) (e:List En) (rs:Rs) (k:Nat) (t:TypeId) (x:Operand) (K:Kn):Prop:=TM P t fun z=>fT n e z x fun v=>match v with
 | .one (.c c)=>(match c with
  | .dead=>False
  | .ro d=>EF k [.ro d] fun row=>sc k true row e rs fun e rs=>K (.set k (.one (.ptr ⟨k,[],0⟩)) :: e) rs
  | .own d=>False
  | .ref pl=>EF k [.ref pl] fun row=>sc k true row e rs fun e rs=>K (.set k (.one (.ptr ⟨k,[],0⟩)) :: e) rs)
 | .one (.agg cs)=>EF k cs fun row=>sc k true row e rs fun e rs=>K (.set k (.one (.ptr ⟨k,[],0⟩)) :: e) rs
 | _=>False
theorem Aa {st:St} {z:Nat} {x:Operand} {cs:List C} (h:T.cy z st x=some (.one (.agg cs))):T.cy 0 st x=some (.one (.agg cs)):=by
 cases x with
 | const v=>
  simp only [cy] at h
  split at h
  simp at h
  split at h <;> simp at h
 | tmp t=>exact h
 | func f=>exact h
 | global g=>exact h
section
variable {P:Program} {w0:World} {g0:Gh} {n:Nat} {e:List En} {rs:Rs} {o:Oper} {K:Kn}
theorem sX {k:Nat} {m:Bool} {row:List C} {t:TS} (h:sc k m row e rs fun e rs=>K (.set k t :: e) rs):k < 1000000∧Lg n K (((aR n e rs).fresh k ⟨m,row⟩).put (some k) t):=by
 obtain ⟨h1,e',fq,h2,h3⟩:=wN (n:=n) h
 exact ⟨h1,by rw [h2];exact .put h3⟩
theorem WQ {k:Nat} {t:TypeId} {x:Operand} (ho:o.op= .box t x) (hd:o.dst=some k) (h:boxW P n e rs k t x K):fX P w0 g0 o (aR n e rs) (Lg n K):=by
 obtain ⟨z,h1⟩:=J9 h
 obtain ⟨v,h2,h3⟩:=bR (rs:=rs) h1
 split at h3
 split at h3
 exact h3.elim
 obtain ⟨h4,h5⟩:=sX (n:=n) (wP h3)
 exact .box ho hd h2 (by simp) h5 h4
 exact h3.elim
 obtain ⟨h4,h5⟩:=sX (n:=n) (wP h3)
 exact .box ho hd h2 (by simp) h5 h4
 obtain ⟨h4,h5⟩:=sX (n:=n) (wP h3)
 exact .Y1 ho hd (Aa h2) h5 h4
 exact h3.elim
def TN (P:Program) (k:Nat) (t:TypeId) (e:List En) (rs:Rs) (K:Kn):Prop:=IG P t fun _ _ row=>xU row fun cs=>sc k true cs e rs fun e rs=>K (.set k (.one (.ptr ⟨k,[],0⟩)) :: e) rs
theorem RB {k:Nat} {t:TypeId} (ho:o.op= .alloc t) (hd:o.dst=some k) (h:TN P k t e rs K):fX P w0 g0 o (aR n e rs) (Lg n K):=by
 obtain ⟨i,z,row,h1,h2,h3,h4,h5,h6⟩:=z_ h
 obtain ⟨h7,h8⟩:=sX (n:=n) (mY h6)
 exact .alloc ho hd (by rw [h1];exact h2) h3 h4 h5 h8 h7
def ZQ (row:List D) (k:D→Prop):Prop:=match row with
 | []=>k (.st [])
 | x :: l=>(match l with
  | []=>(match x with| .v y=>k (.v y)| .sl s ds=>k (.sl s ds)|_=>False)
  | y :: l=>k (.st (x :: y :: l)))
theorem WS {row:List D} {k:D→Prop} (h:ZQ row k):∃ d,d.row=row∧k d:=by
 unfold ZQ at h
 split at h
 exact ⟨_,rfl,h⟩
 split at h
 split at h
 exact ⟨_,rfl,h⟩
 exact ⟨_,rfl,h⟩
 exact h.elim
 exact ⟨_,rfl,h⟩
def TO (P:Program) (n:Nat) (e:List En) (rs:Rs) (k:Nat) (t:TypeId) (x y:Operand) (K:Kn):Prop:=match P.underlying t with
 | some (.slice el)=>fT n e 0 x fun a=>C0 a fun m=>fT n e 0 y fun b=>C0 b fun m'=>IG P el fun i z row=>oneOf i.size small fun sz=>BR (Nat.ble i.bytes 1048576 && Nat.beq row.length sz) (ZQ row fun d=>TK m m' fun m=>J6 [k] k sz (List.replicate m d) e rs K) False
 | _=>False
theorem TP {k:Nat} {t:TypeId} {x y:Operand} (ho:o.op= .makeSlice t x y) (hd:o.dst=some k) (h:TO P n e rs k t x y K):fX P w0 g0 o (aR n e rs) (Lg n K):=by
 unfold TO at h
 split at h
 rename_i el hu
 obtain ⟨a,h1,h2⟩:=bR (rs:=rs) h
 obtain ⟨m,rfl,h3⟩:=od h2
 obtain ⟨b,h4,h5⟩:=bR (rs:=rs) h3
 obtain ⟨m',rfl,h6⟩:=od h5
 obtain ⟨i,z,row,h9,kU,oW,h12,pL,vc⟩:=z_ h6
 obtain ⟨sW,II⟩:=bG (mX vc)
 simp only [Bool.and_eq_true] at sW
 obtain ⟨d,LJ,RE⟩:=WS II
 obtain ⟨m,rfl,rfl,Sy,TR⟩:=RE
 obtain ⟨WT,h22⟩:=wO (n:=n) TR
 exact .makeE ho hd h1 h4 hu h9 kU rfl sW.1 oW h12 pL (Nat.eq_of_beq_eq_true sW.2) LJ (Int.natCast_nonneg _) (by omega) h22 WT
 exact h.elim
def EG:Nat→List (Nat×Operand)→(List Operand→Prop)→Prop
 | _,[],k=>k []
 | i,(j,x) :: l,k=>BR (Nat.beq j i) (EG (i + 1) l fun xs=>k (x :: xs)) False
theorem Ct:∀ {l:List (Nat×Operand)} {i:Nat} {k:List Operand→Prop},EG i l k→∃ xs,l=(xs.zipIdx i).map (fun x=>(x.2,x.1))∧k xs
 | [],i,k,h=>⟨[],rfl,h⟩
 | (j,x) :: l,i,k,h=>by
  obtain ⟨h1,h2⟩:=bG h
  obtain ⟨xs,h3,h4⟩:=Ct (l:=l) h2
  have h1:=Nat.eq_of_beq_eq_true h1
  subst h1
  exact ⟨x :: xs,by simp [List.zipIdx_cons,h3],h4⟩
def TW (n:Nat) (e:List En):List Operand→(List TV→Prop)→Prop
 | [],k=>k []
 | x :: l,k=>fT n e 0 x fun t=>match t with
  | .one tv=>TW n e l fun l=>k (tv :: l)
  | _=>False
theorem Mt {n:Nat} {e:List En} {rs:Rs}:∀ {l:List Operand} {k:List TV→Prop},TW n e l k→∃ cZ,T.xK 0 (aR n e rs) l=some cZ∧k cZ
 | [],k,h=>⟨[],rfl,h⟩
 | x :: l,k,h=>by
  obtain ⟨t,h1,h2⟩:=bR (rs:=rs) h
  split at h2
  obtain ⟨cZ,h3,h4⟩:=Mt (rs:=rs) (l:=l) h2
  exact ⟨_,by simp [T.xK,h1,h3],h4⟩
  exact h2.elim
def ZR (t:TV) (k:D→Prop):Prop:=match t with
 | .c c=>(match c with
  | .ro d=>(match d with
   | .v x=>k (.v x)
   | .sl _ _=>k .hole
   | .st _=>k .hole
   | .hole=>k .hole)
  | .own _=>k .hole
  | .ref _=>k .hole
  | .dead=>k .hole)
 | .agg cs=>kv (cs.map c5) fun ds=>k (.st ds)
 | .ptr _=>k .hole
 | .bV _=>k .hole
 | .CV _=>k .hole
 | .o3 _=>k .hole
 | .cut _ _ _ _=>k .hole
 | .dead=>k .hole
theorem Qe {t:TV} {k:D→Prop} (h:ZR t k):k (lz t):=by
 cases t with
 | c c=>
  cases c with
  | ro d=>cases d <;> exact h
  | own d=>exact h
  | ref s=>exact h
  | dead=>exact h
 | agg cs=>exact fM.1 h
 | ptr _=>exact h
 | bV _=>exact h
 | CV _=>exact h
 | o3 _=>exact h
 | cut _ _ _ _=>exact h
 | dead=>exact h
def TX:List TV→(List D→Prop)→Prop
 | [],k=>k []
 | t :: l,k=>ZR t fun d=>TX l fun l=>k (d :: l)
theorem Mu:∀ {l:List TV} {k:List D→Prop},TX l k→k (l.map lz)
 | [],k,h=>h
 | t :: l,k,h=>Mu (l:=l) (Qe h)
def EH (k:Nat):Nat→List C→Nat→List En→Rs→Kn→Prop
 | _,[],_,e,rs,K=>K e rs
 | 0,_ :: _,_,_,_,_=>False
 | n + 1,c :: cs,j,e,rs,K=>match c with
  | .ro d=>(match d with
   | .v _=>EH k n cs (j + 1) e rs K
   | _=>False)
  | .ref s=>kE rs k [(0,0)] j fun _ _=>tM k [(0,0)] j (.ref s) e rs fun e rs=>fu (cs.map (C.kill (dP k [(0,0)] j))) fun cs=>EH k n cs (j + 1) e rs K
  | _=>False
theorem wR {k:Nat} {g:C→C}:∀ {cs:List C} {f:C→C} {j:Nat} {st:St},St.pu k (cs.map g) f j st=St.pu k cs (fun c=>f (g c)) j st
 | [],f,j,st=>rfl
 | c :: cs,f,j,st=>by
  simp only [St.pu,List.map_cons]
  generalize f (g c)=c'
  cases c' with
  | ro d=>
   cases d with
   | v x=>exact wR (cs:=cs)
   | sl _ _=>rfl
   | st _=>rfl
   | hole=>rfl
  | ref s=>
   simp only
   cases st.cellAt ⟨k,[(0,0)],j⟩ with
   | none=>rfl
   | some c0=>
    simp only
    cases st.dD ⟨k,[(0,0)],j⟩ (.ref s) with
    | none=>rfl
    | some bD=>exact wR (cs:=cs)
  | own d=>rfl
  | dead=>rfl
theorem By {k:Nat}:∀ {m:Nat} {cs:List C} {j:Nat} {e:List En} {rs:Rs} {K:Kn},EH k m cs j e rs K→∃ bD,St.pu k cs id j (aR n e rs)=some bD∧Lg n K bD
 | m,[],j,e,rs,K,h=>⟨_,rfl, .mk (by cases m <;> exact h)⟩
 | 0,_ :: _,j,e,rs,K,h=>h.elim
 | m + 1,c :: cs,j,e,rs,K,h=>by
  unfold EH at h
  split at h
  split at h
  obtain ⟨bD,h1,h2⟩:=By (m:=m) (cs:=cs) h
  exact ⟨bD,by simp only [St.pu,id_eq];exact h1,h2⟩
  exact h.elim
  rename_i s
  obtain ⟨_,c0,h1,_,h2⟩:=eU (n:=n) (e:=e) h
  obtain ⟨bD,h3,e',fq,h4,h5⟩:=qE (n:=n) h2
  subst h4
  obtain ⟨wB,h6,h7⟩:=By (m:=m) (cs:=cs.map (C.kill (dP k [(0,0)] j))) (dw.1 h5)
  refine ⟨wB, ?_,h7⟩
  rw [wR] at h6
  simp only [St.pu,id_eq,h1,h3]
  exact h6
  exact h.elim
def EI (P:Program) (n:Nat) (e:List En) (rs:Rs) (k:Nat) (t:TypeId) (len:Nat) (parts:List (Nat×Operand)) (K:Kn):Prop:=match P.underlying t with
 | some (.slice el)=>IG P el fun i z row=>oneOf i.size small fun sz=>(match parts with
  | []=>BR (Nat.beq len 0) (J6 [k] k sz [] e rs K) False
  | p :: ps=>BR (Nat.ble 1 sz) (match ps with
   | []=>BR (Nat.beq len 1 && Nat.beq p.1 0 && Nat.ble sz 16777216) (TM P el fun zz=>fT n e zz p.2 fun t=>match t with
    | .one tv=>BR (yB sz tv) (ZR tv fun d=>J5 [k] k [.own (.sl sz [d])] e rs fun e rs=>fu ((jn tv).map (C.kill fun pl=>pl.k == k)) fun cs=>EH k 40 cs 0 e rs fun e rs=>K (.set k (.one (.c (.ref ⟨k,[],0⟩))) :: e) rs) False
    | _=>False) False
   | q :: ps=>BR (Nat.ble (len * sz) 16777216) (EG 0 (p :: q :: ps) fun xs=>BR (Nat.beq xs.length len) (TW n e xs fun cZ=>BR (cZ.all (yB sz)) (TX cZ fun ds=>J6 [k] k sz ds e rs K) False) False) False) False)
 | _=>False
theorem wS {t:TypeId} {i:TypeInfo} {z:Value} (h:P.info? t=some i) (h1:i.zero=some z):(P.info? t).bind (·.zero)=some z:=by rw [h];exact h1
theorem TY {st:St} {z:Nat} {x:Operand} {ks:List Nat}:T.cy z (st.only ks) x=T.cy z st x:=by cases x <;> rfl
theorem IJ {st:St} {z:Nat} {ks:List Nat}:∀ {xs:List Operand},T.xK z (st.only ks) xs=T.xK z st xs
 | []=>rfl
 | x :: xs=>by simp only [T.xK,TY,IJ]
theorem Mv {m:Bool} {k len:Nat} {t:TypeId} {parts:Array (Nat×Operand)} (ho:o.op= .buildSlice t len parts) (hd:o.dst=some k) (h:EI P n e rs k t len parts.toList K):WO m P w0 g0 o (aR n e rs) (Lg n K):=by
 unfold EI at h
 split at h
 rename_i el hu
 obtain ⟨i,z,row,h1,h2,h3,h4,h5,h6⟩:=z_ h
 have h6:=mX h6
 have hs:jm P el=some i.size:=by simp [jm,h1]
 split at h6
 rename_i hp
 obtain ⟨h7,h8⟩:=bG h6
 have h7:=Nat.eq_of_beq_eq_true h7
 subst h7
 have G7:parts= #[]:=Array.ext' (by simpa using hp)
 subst G7
 obtain ⟨h9,kU⟩:=wO (n:=n) h8
 exact .of (rq.of (Cr ho) (fun w0 g0=>⟨_,fX.S2 ho hd hu hs rfl h9⟩) (fX.S2 ho hd hu hs kU h9))
 rename_i p ps hp
 obtain ⟨h7,h8⟩:=bG h6
 have h7:=Nat.le_of_ble_eq_true h7
 split at h8
 obtain ⟨h9,kU⟩:=bG h8
 simp only [Bool.and_eq_true] at h9
 have h91:=Nat.eq_of_beq_eq_true h9.1.1
 have h92:=Nat.eq_of_beq_eq_true h9.1.2
 subst h91
 obtain ⟨i0,x⟩:=p
 simp only at h92
 subst h92
 have G7:parts= #[(0,x)]:=Array.ext' (by simpa using hp)
 subst G7
 obtain ⟨zz,oW⟩:=J9 kU
 obtain ⟨t',h12,pL⟩:=bR (rs:=rs) oW
 split at pL
 rename_i tv
 obtain ⟨vc,sW⟩:=bG pL
 obtain ⟨II,e',fq,LJ,RE⟩:=Bw (n:=n) (Qe sW)
 obtain ⟨bD,Sy,e2,IK,TR,WT⟩:=By (n:=n) (dw.1 RE)
 have hsz:i.size ≤ 16777216:=Nat.le_of_ble_eq_true h9.2
 have hT:fX P w0 g0 o (aR n e rs) (Lg n K):=by
  refine .Oa ho hd h12 hu hs (wS h1 h2) vc h7 hsz (bD:=bD) ?_ ?_ II
  rw [wR] at Sy
  rw [LJ]
  exact Sy
  rw [TR];exact .put WT
 exact .of (rq.Oa ho ⟨k,hd,II⟩ h12 hu hs (wS h1 h2) vc h7 hsz hT)
 exact pL.elim
 obtain ⟨h9,kU⟩:=bG h8
 obtain ⟨xs,oW,h12⟩:=Ct kU
 obtain ⟨pL,vc⟩:=bG h12
 have pL:=Nat.eq_of_beq_eq_true pL
 obtain ⟨cZ,sW,II⟩:=Mt (rs:=rs) vc
 obtain ⟨LJ,RE⟩:=bG II
 obtain ⟨Sy,TR⟩:=wO (n:=n) (Mu RE)
 exact .of (rq.of (Cr ho) (fun w0 g0=>⟨_,fX.S1 ho hd (by rw [hp];exact oW) pL (by rw [IJ];exact sW) hu hs (wS h1 h2) LJ h7 (Nat.le_of_ble_eq_true h9) rfl Sy⟩)
  (fX.S1 ho hd (by rw [hp];exact oW) pL sW hu hs (wS h1 h2) LJ h7 (Nat.le_of_ble_eq_true h9) TR Sy))
 exact h.elim
end
end Go.Proofs.YtdliggkohdnipaaGreat.T
