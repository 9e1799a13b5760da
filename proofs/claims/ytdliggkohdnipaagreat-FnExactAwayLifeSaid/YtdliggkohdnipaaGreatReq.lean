import Derived.Test.YtdliggkohdnipaaGreatRcq
set_option linter.unusedVariables false
set_option linter.unusedSimpArgs false
namespace Go.Proofs.YtdliggkohdnipaaGreat.T
open Go
section
variable {c:C} {K:Kn} {p:List (Nat×Nat)} {row:List C} {ds:List D} {kl:List Nat} {b k n q sz:Nat} {rs:Rs} {r:Rt}
def Lg (n:Nat) (K:Kn):St→Prop:=fun st=>∃ e rs,st=aZ n e rs∧K e rs
theorem Lg.mk {e:List En} (h:K e rs):Lg n K (aZ n e rs):=⟨e,rs,rfl,h⟩
theorem Lg.put {e:List En} {i:Nat} {t:TS} (h:K (.set i t :: e) rs):Lg n K ((aZ n e rs).put (some i) t):=by rw [F8];exact .mk h
def RH (k:Nat):TS→TS:=TS.kill (fun pl=>pl.k == k) (fun pl=>pl.k == k)
def Qf (rs:Rs) (k:Nat) (r:Rt):Rs:=((⟨[],rs⟩:St).fresh k r).roots
theorem Vv {e:List En}:(aZ n e rs).fresh k r=aZ n (.app (RH k) :: e) (Qf rs k r):=by
 simp only [St.fresh,St.kill,St.cw,Qf]
 exact iY
def tV (k:Nat) (m:Bool) (row:List C) (e:List En) (rs:Rs) (K:Kn):Prop:=BR (Nat.blt k 1000000) (k5 k rs (Qf rs k ⟨m,row⟩) fun fZ=>K (.app (RH k) :: e) fZ) False
theorem yG {m:Bool} {e:List En} (h:tV k m row e rs K):k < 1000000∧Lg n K ((aZ n e rs).fresh k ⟨m,row⟩):=by
 obtain ⟨h1,h2⟩:=bQ h
 exact ⟨fA h1,by rw [Vv];exact .mk (hU h2)⟩
def Vw (kl:List Nat):TS→TS:=TS.kill (fun pl=>kl.contains pl.k) (fun pl=>kl.contains pl.k)
def CM (rs:Rs) (kl:List Nat) (k:Nat) (r:Rt):Rs:=((⟨[],rs⟩:St).renew kl k r).roots
theorem Vx {e:List En}:(aZ n e rs).renew kl k r=aZ n (.app (Vw kl) :: e) (CM rs kl k r):=by
 simp only [St.renew,St.kill,CM]
 exact iY
def LG (kl:List Nat) (k:Nat) (row:List C) (e:List En) (rs:Rs) (K:Kn):Prop:=BR (Nat.blt k 1000000) (k5 k rs (CM rs kl k ⟨false,row⟩) fun fZ=>K (.app (Vw kl) :: e) fZ) False
theorem CN {e:List En} (h:LG kl k row e rs K):k < 1000000∧Lg n K ((aZ n e rs).renew kl k ⟨false,row⟩):=by
 obtain ⟨h1,h2⟩:=bQ h
 exact ⟨fA h1,by rw [Vx];exact .mk (hU h2)⟩
def LH (kl:List Nat) (k sz:Nat) (ds:List D) (e:List En) (rs:Rs) (K:Kn):Prop:=LG kl k [.own (.sl sz ds)] e rs fun e rs=>K (.set k (.one (.c (.ref ⟨k,[],0⟩))) :: e) rs
theorem yH {e:List En} (h:LH kl k sz ds e rs K):k < 1000000∧Lg n K (((aZ n e rs).renew kl k ⟨false,[.own (.sl sz ds)]⟩).put (some k) (.one (.c (.ref ⟨k,[],0⟩)))):=by
 obtain ⟨h1,e',fZ,h2,h3⟩:=CN (n:=n) h
 exact ⟨h1,by rw [h2];exact .put h3⟩
def killL (k:Nat):TS→TS:=TS.kill (Fi k) (Ba k)
theorem Qg {e:List En}:(aZ n e rs).yD k r=aZ n (.app (killL k) :: e) (CM rs [k] k r):=by
 simp only [St.yD,St.renew,St.kill,CM]
 exact iY
def Bw (k sz:Nat) (ds:List D) (e:List En) (rs:Rs) (K:Kn):Prop:=BR (Nat.blt k 1000000) (k5 k rs (CM rs [k] k ⟨false,[.own (.sl sz ds)]⟩) fun fZ=>K (.app (killL k) :: e) fZ) False
theorem NU {e:List En} (h:Bw k sz ds e rs K):k < 1000000∧Lg n K ((aZ n e rs).yD k ⟨false,[.own (.sl sz ds)]⟩):=by
 obtain ⟨h1,h2⟩:=bQ h
 exact ⟨fA h1,by rw [Qg];exact .mk (hU h2)⟩
def LI (e:D) (er:List D) (k:D→Prop):Prop:=match e with
 | .st _=>k (.st er)
 | .v x=>(match er with| []=>k (.v x)|y :: _=>k y)
 | .sl s l=>(match er with| []=>k (.sl s l)|y :: _=>k y)
 | .hole=>(match er with| []=>k .hole|y :: _=>k y)
theorem CO {e:D} {er:List D} {k:D→Prop} (h:LI e er k):k (e.rf er):=by
 cases e <;> cases er <;> exact h
def Qh:List D→List (Nat×Nat)→Nat→D→(List D→Prop)→Prop
 | row,[],q,d,k=>CL row q d k
 | row,(q,i) :: p,q',d,k=>sg row q fun c=>match c with
  | .sl sz ds=>Yj ds i fun e=>NM e fun er=>Qh er p q' d fun Cz=>LI e Cz fun e'=>CL row q (.sl sz (ds.set i e')) k
  | _=>False
theorem Kg:∀ {p:List (Nat×Nat)} {row:List D} {q:Nat} {d:D} {k:List D→Prop},Qh row p q d k→∃ row',setAt row p q d=some row'∧k row'
 | [],row,q,d,k,h=>by
  obtain ⟨h1,h2⟩:=ny h
  exact ⟨_,by simp [setAt,h1],h2⟩
 | (q,i) :: p,row,q',d,k,h=>by
  obtain ⟨c,h1,h2⟩:=iK h
  split at h2
  obtain ⟨e,h3,h4⟩:=Aw h2
  obtain ⟨Cz,h5,h6⟩:=Kg (p:=p) (yF h4)
  obtain ⟨h7,h8⟩:=ny (CO h6)
  exact ⟨_,by simp [setAt,h1,h3,h5],h8⟩
  exact h2.elim
def ot (row:List C) (p:List (Nat×Nat)) (q:Nat) (c:C) (k:List C→Prop):Prop:=match p with
 | []=>CL row q c k
 | (q1,i) :: r=>(match c with
  | .own d=>sg row q1 fun c1=>(match c1 with
   | .own d1=>(match d1 with
    | .sl sz ds=>Yj ds i fun e=>NM e fun er=>Qh er r q d fun Cz=>LI e Cz fun e'=>CL row q1 (.own (.sl sz (ds.set i e'))) k
    | _=>False)
   | _=>False)
  | _=>False)
theorem kI {k:List C→Prop} (h:ot row p q c k):∃ row',setRow row p q c=some row'∧k row':=by
 cases p with
 | nil=>
  obtain ⟨h1,h2⟩:=ny h
  exact ⟨_,by simp [setRow,h1],h2⟩
 | cons x r=>
  obtain ⟨q1,i⟩:=x
  unfold ot at h
  simp only at h
  split at h
  obtain ⟨c1,h1,h2⟩:=iK h
  split at h2
  split at h2
  obtain ⟨e,h3,h4⟩:=Aw h2
  obtain ⟨Cz,h5,h6⟩:=Kg (yF h4)
  obtain ⟨h7,h8⟩:=ny (CO h6)
  exact ⟨_,by simp [setRow,h1,h3,h5],h8⟩
  exact h2.elim
  exact h2.elim
  exact h.elim
def nS (rs:Rs) (b:Nat) (p:List (Nat×Nat)) (q:Nat) (m:Bool) (row:List C) (s:Option (Nat×Nat)):Rs:=((⟨[],rs⟩:St).wrote b p q m row s).roots
def m_ (b:Nat) (p:List (Nat×Nat)) (q:Nat):TS→TS:=TS.kill (ez b p q) (wY b p q)
theorem Bx {n:Nat} {e:List En} {rs:Rs} {b q:Nat} {p:List (Nat×Nat)} {m:Bool} {row:List C} {s:Option (Nat×Nat)}:
  (aZ n e rs).wrote b p q m row s=aZ n (.app (m_ b p q) :: e) (nS rs b p q m row s):=by
 unfold nS
 cases s with
 | none=>
  simp only [St.wrote,St.kill,St.cw]
  exact iY
 | some s=>
  obtain ⟨k1,q1⟩:=s
  have h1:∀ l:List TS,(((⟨l,rs⟩:St).kill (ez b p q) (wY b p q)).cw b ⟨m,row⟩).root k1=(((⟨[],rs⟩:St).kill (ez b p q) (wY b p q)).cw b ⟨m,row⟩).root k1:=fun l=>rfl
  simp only [St.wrote]
  rw [show (aZ n e rs)=⟨(aZ n e rs).tmps,rs⟩ from rfl,h1]
  split
  simp only [St.kill,St.cw]
  exact iY
  simp only [St.kill,St.cw]
  exact iY
def vq (b:Nat) (p:List (Nat×Nat)) (q:Nat) (c:C) (e:List En) (rs:Rs) (K:Kn):Prop:=rj rs b fun m row=>f_ (row.map (C.kill (ez b p q))) fun row=>match c with
 | .ro d=>(match d with
  | .v x=>ot row p q (.own (.v x)) fun row=>k5 b rs (nS rs b p q m row none) fun rs=>K (.app (m_ b p q) :: e) rs
  | .sl sz ds=>(match p with
   | []=>ot row [] q (.ro (.sl sz ds)) fun row=>k5 b rs (nS rs b [] q m row none) fun rs=>K (.app (m_ b [] q) :: e) rs
   | _=>False)
  | _=>False)
 | .ref s=>(match s with
  | ⟨sk,sp,sq⟩=>(match sp with
   | []=>BR (Nat.beq sk b) False (lP rs sk [] sq fun _ c=>match c with
    | .own d=>(match d with
     | .v x=>ot row p q (.own (.v x)) fun row=>k5 b rs (nS rs b p q m row (some (sk,sq))) fun rs=>K (.app (m_ b p q) :: e) rs
     | .sl sz ds=>ot row p q (.own (.sl sz ds)) fun row=>k5 b rs (nS rs b p q m row (some (sk,sq))) fun rs=>K (.app (m_ b p q) :: e) rs
     | _=>False)
    | .ro d=>(match p with
     | []=>ot row [] q (.ref ⟨sk,[],sq⟩) fun row=>k5 b rs (nS rs b [] q m row none) fun rs=>K (.app (m_ b [] q) :: e) rs
     | _=>False)
    | .ref _=>(match p with
     | []=>ot row [] q (.ref ⟨sk,[],sq⟩) fun row=>k5 b rs (nS rs b [] q m row none) fun rs=>K (.app (m_ b [] q) :: e) rs
     | _=>False)
    | _=>False)
   | x :: sp=>(match p with
    | []=>BR (ez b [] q ⟨sk,x :: sp,sq⟩) False (ot row [] q (.ref ⟨sk,x :: sp,sq⟩) fun row=>k5 b rs (nS rs b [] q m row none) fun rs=>K (.app (m_ b [] q) :: e) rs)
    | _=>False)))
 | _=>False
theorem NV {s:Pl} (h:s.k ≠ b):ez b [] q s=false:=by simp [ez,h]
theorem rm {b:Bool} {A:Prop} (h:BR b False A):b=false∧A:=by cases b <;> simp_all [BR]
theorem si {e:List En} (h:vq b p q c e rs K):∃ bJ,(aZ n e rs).d_ ⟨b,p,q⟩ c=some bJ∧Lg n K bJ:=by
 obtain ⟨m,row,h1,h2⟩:=iZ (n:=n) (e:=e) h
 have h3:=dK.1 h2
 have fin:∀ {row':List C} {s:Option (Nat×Nat)},(k5 b rs (nS rs b p q m row' s) fun rs=>K (.app (m_ b p q) :: e) rs)→Lg n K ((aZ n e rs).wrote b p q m row' s):=fun hn=>by
  rw [Bx]
  exact .mk (hU hn)
 split at h3
 split at h3
 obtain ⟨row',h4,h5⟩:=kI h3
 exact ⟨_,by simp [St.d_,h1,h4],fin h5⟩
 split at h3
 obtain ⟨row',h4,h5⟩:=kI h3
 exact ⟨_,by simp [St.d_,h1,h4],fin h5⟩
 exact h3.elim
 exact h3.elim
 rename_i s
 obtain ⟨sk,sp,sq⟩:=s
 simp only at h3
 split at h3
 obtain ⟨h4,h5⟩:=rm h3
 have hne:sk ≠ b:=fun e=>by subst e;simp at h4
 obtain ⟨m',c,h6,_,h7⟩:=fF (n:=n) (e:=e) h5
 split at h7
 split at h7
 obtain ⟨row',h8,h9⟩:=kI h7
 exact ⟨_,by simp [St.d_,h1,hne,h6,h8],fin h9⟩
 obtain ⟨row',h8,h9⟩:=kI h7
 exact ⟨_,by simp [St.d_,h1,hne,h6,h8],fin h9⟩
 exact h7.elim
 split at h7
 obtain ⟨row',h8,h9⟩:=kI h7
 exact ⟨_,by simp [St.d_,h1,hne,h6,h8,NV (b:=b) (q:=q) (s:=⟨sk,[],sq⟩) hne],fin h9⟩
 exact h7.elim
 split at h7
 obtain ⟨row',h8,h9⟩:=kI h7
 exact ⟨_,by simp [St.d_,h1,hne,h6,h8,NV (b:=b) (q:=q) (s:=⟨sk,[],sq⟩) hne],fin h9⟩
 exact h7.elim
 exact h7.elim
 split at h3
 obtain ⟨h4,h5⟩:=rm h3
 obtain ⟨row',h8,h9⟩:=kI h5
 exact ⟨_,by simp [St.d_,h1,h4,h8],fin h9⟩
 exact h3.elim
 exact h3.elim
def Vy (cs:List C) (k:Prop):Prop:=match cs with
 | []=>k
 | _ :: _=>False
def Yp (b:Nat) (p:List (Nat×Nat)) (f:List C→Nat→List En→Rs→Kn→Prop) (cs:List C) (q:Nat) (e:List En) (rs:Rs) (K:Kn):Prop:=match cs with
 | []=>K e rs
 | c :: cs=>lP rs b p q fun _ _=>vq b p q c e rs fun e rs=>f_ (cs.map (C.kill (ez b p q))) fun cs=>f cs (q + 1) e rs K
def LJ (b:Nat) (p:List (Nat×Nat)) (n:Nat):List C→Nat→List En→Rs→Kn→Prop:=
 @Nat.rec (fun _=>List C→Nat→List En→Rs→Kn→Prop) (fun cs _ e rs K=>Vy cs (K e rs)) (fun _ ih cs q e rs K=>Yp b p ih cs q e rs K) n
theorem vr {b:Nat} {p:List (Nat×Nat)} {g:C→C}:∀ {cs:List C} {f:C→C} {q:Nat} {st:St},St.storeAll b p (cs.map g) f q st=St.storeAll b p cs (fun c=>f (g c)) q st
 | [],f,q,st=>rfl
 | c :: cs,f,q,st=>by
  simp only [St.storeAll,List.map_cons]
  cases st.cellAt ⟨b,p,q⟩ with
  | none=>rfl
  | some c0=>
   simp only
   cases st.d_ ⟨b,p,q⟩ (f (g c)) with
   | none=>rfl
   | some bJ=>
    simp only
    rw [vr (cs:=cs)]
theorem Gd {n b:Nat} {p:List (Nat×Nat)}:∀ {m:Nat} {cs:List C} {q:Nat} {e:List En} {rs:Rs} {K:Kn},LJ b p m cs q e rs K→∃ bJ,St.storeAll b p cs id q (aZ n e rs)=some bJ∧Lg n K bJ
 | m,[],q,e,rs,K,h=>⟨_,rfl, .mk (by cases m <;> exact h)⟩
 | 0,_ :: _,q,e,rs,K,h=>h.elim
 | m + 1,c :: cs,q,e,rs,K,h=>by
  have h:lP rs b p q fun _ _=>vq b p q c e rs fun e rs=>f_ (cs.map (C.kill (ez b p q))) fun cs=>LJ b p m cs (q + 1) e rs K:=h
  obtain ⟨_,c0,h1,_,h2⟩:=fF (n:=n) (e:=e) h
  obtain ⟨bJ,h3,e',fZ,h4,h5⟩:=si (n:=n) h2
  subst h4
  obtain ⟨yy,h6,h7⟩:=Gd (n:=n) (m:=m) (cs:=cs.map (C.kill (ez b p q))) (dK.1 h5)
  refine ⟨yy, ?_,h7⟩
  simp only [St.storeAll,h1,id_eq,h3]
  rw [vr] at h6
  exact h6
end
def Yq (m:Bool) (P:Program) (w0:World) (g0:Gh) (o:Oper) (st:St) (Q:St→Prop):Prop:=if m then s3 P w0 g0 o st Q else gJ P w0 g0 o st Q
theorem s3.t {P:Program} {w0:World} {g0:Gh} {o:Oper} {st:St} {Q:St→Prop} (h:s3 P w0 g0 o st Q):gJ P w0 g0 o st Q:=fun a w g hR K Q' hK=>by
 have h1:=h a w g hR K hK
 unfold Oper.wp
 generalize (execOp a.eval o).run P w=r at h1
 cases r with
 | halt x w'=>exact h1.elim
 | ok x w'=>
  cases x <;> simp only [DK] at h1 <;> simp only [Oper.upon]
  case value v=>exact h1.2
  case skip=>exact h1.2
  case enter f args=>exact h1.2.mono fun e w'' ⟨v,h2,h3,h4⟩=>by subst h2;exact h4
theorem Yq.of {m:Bool} {P:Program} {w0:World} {g0:Gh} {o:Oper} {st:St} {Q:St→Prop} (h:s3 P w0 g0 o st Q):Yq m P w0 g0 o st Q:=by
 unfold Yq
 split
 exact h
 exact h.t
theorem gJ.takeN {P:Program} {w0:World} {g0:Gh} {o:Oper} {st bJ:St} {Q:St→Prop} {k1:Nat} {p1:List (Nat×Nat)} {q1 L:Nat} (ht:st.takeN k1 p1 q1 L=some bJ) (hne:k1 ≠ L) (hL:L < 1000000) (h:gJ P w0 g0 o bJ Q):gJ P w0 g0 o st Q:=
 fun a w g hR K Q' hK=>by
  obtain ⟨g1,h1⟩:=hR.takeN ht hne hL
  exact h a w g1 h1 K Q' hK
def Vz (rs:Rs) (L sz:Nat) (ds:List D) (b:Nat) (m:Bool) (row:List C):Rs:=(((⟨[],rs⟩:St).fresh L ⟨false,[.own (.sl sz ds)]⟩).cw b ⟨m,row⟩).roots
def VA (b:Nat) (p:List (Nat×Nat)) (q L:Nat) (e:List En) (rs:Rs) (K:Kn):Prop:=BR (Nat.beq b L) False (rj rs b fun m row=>lP rs b p q fun _ c=>match c with
 | .own d=>(match d with
  | .sl sz ds=>f_ (row.map (C.kill fun pl=>pl.k == L)) fun row=>ot row p q (.own .hole) fun row=>k5 L rs (Vz rs L sz ds b m row) fun rs=>K (.app (reT b p q L) :: .app (RH L) :: e) rs
  | _=>False)
 | _=>False)
theorem NW {n b q L:Nat} {p:List (Nat×Nat)} {e:List En} {rs:Rs} {K:Kn} (h:VA b p q L e rs K):b ≠ L∧∃ bJ,(aZ n e rs).takeN b p q L=some bJ∧Lg n K bJ:=by
 obtain ⟨h0,h⟩:=rm h
 refine ⟨fun e=>by subst e;simp at h0, ?_⟩
 obtain ⟨m,row,h1,h2⟩:=iZ (n:=n) (e:=e) h
 obtain ⟨_,c,h3,_,h4⟩:=fF (n:=n) (e:=e) h2
 split at h4
 split at h4
 rename_i sz ds
 obtain ⟨row',h5,h6⟩:=kI (dK.1 h4)
 refine ⟨_,by simp only [St.takeN,h1,h3,h5];rfl, ?_⟩
 have h7:=hU h6
 have h8:(⟨(((aZ n e rs).fresh L ⟨false,[.own (.sl sz ds)]⟩).cw b ⟨m,row'⟩).tmps.map (reT b p q L),(((aZ n e rs).fresh L ⟨false,[.own (.sl sz ds)]⟩).cw b ⟨m,row'⟩).roots⟩:St)=
   aZ n (.app (reT b p q L) :: .app (RH L) :: e) (Vz rs L sz ds b m row'):=by
  rw [← iY (rs:=(Vz rs L sz ds b m row')), ← iY (rs:=rs)]
  rfl
 exact ⟨_,_,h8,h7⟩
 exact h4.elim
 exact h4.elim
inductive VB (n n':Int) (k:Nat→Prop):Prop
 | mk (m:Nat) (h:n=m) (h':n'=m) (hm:m ≤ 134217728) (c:k m)
structure AppP (ds ns:List D) (k:Prop):Prop where
 plain:∀ d ∈ ns,iI d
 len:ds.length + ns.length ≤ 134217728
 c:k
structure AppO (ds ns:List D) (k:Prop):Prop where
 nh:∀ d ∈ ns,∀ c ∈ d.row,c ≠ .hole
 len:ds.length + ns.length ≤ 134217728
 c:k
def VC (P:Program) (t:TypeId) (k:Nat→Prop):Prop:=match P.underlying t with
 | some (.slice e)=>s_ P e k
 | _=>k 1
theorem LK {P:Program} {t:TypeId} {k:Nat→Prop} (h:VC P t k):∃ z,k z:=by
 unfold VC at h
 split at h
 obtain ⟨s,_,h⟩:=k6 h;exact ⟨s,h⟩
 exact ⟨1,h⟩
def Kh (P:Program) (t:TypeId) (k:TypeInfo→Value→List D→Prop):Prop:=match P.info? t with
 | some i=>(match i.zero with
  | some z=>(match zH P 6 t with
   | some row=>lG row fun row=>BR (Vu z.cells.toList row) (k i z row) False
   | none=>False)
  | none=>False)
 | none=>False
theorem By {P:Program} {t:TypeId} {k:TypeInfo→Value→List D→Prop} (h:Kh P t k):∃ i z row,P.info? t=some i∧i.zero=some z∧zH P 6 t=some row∧z.cells.toList=row.map zeroV∧row.all tR=true∧k i z row:=by
 unfold Kh at h
 split at h
 rename_i i h1
 split at h
 rename_i z h2
 split at h
 rename_i row h3
 obtain ⟨h4,h5⟩:=bQ (gA.1 h)
 exact ⟨i,z,row,h1,h2,h3,(Bv h4).1,(Bv h4).2,h5⟩
 exact h.elim
 exact h.elim
 exact h.elim
def allV:List D→Bool
 | []=>true
 | d :: l=>(match d with| .v _=>true|_=>false) && allV l
def LL (dst:Option Nat) (k:Nat→Prop):Prop:=match dst with|some i=>k i|none=>False
theorem tc {dst:Option Nat} {k:Nat→Prop} (h:LL dst k):∃ i,dst=some i∧k i:=by
 cases dst with
 | none=>exact h.elim
 | some i=>exact ⟨i,rfl,h⟩
def Ge (k:Nat):List C→(List C→Prop)→Prop
 | [],K=>K []
 | c :: l,K=>Au (Nk k c) fun c=>Ge k l fun l=>K (c :: l)
theorem yI {k:Nat}:∀ {l:List C} {K:List C→Prop},Ge k l K→K (l.map (Nk k))
 | [],K,h=>h
 | c :: l,K,h=>yI (l:=l) (r_.1 h)
def boxW (P:Program) (n:Nat) (e:List En) (rs:Rs) (k:Nat) (t:TypeId) (x:Operand) (K:Kn):Prop:=VC P t fun z=>gH n e z x fun v=>match v with
 | .one (.c c)=>(match c with
  | .dead=>False
  | .ro d=>Ge k [.ro d] fun row=>tV k true row e rs fun e rs=>K (.set k (.one (.ptr ⟨k,[],0⟩)) :: e) rs
  | .own d=>False
  | .ref pl=>Ge k [.ref pl] fun row=>tV k true row e rs fun e rs=>K (.set k (.one (.ptr ⟨k,[],0⟩)) :: e) rs)
 | .one (.agg cs)=>Ge k cs fun row=>tV k true row e rs fun e rs=>K (.set k (.one (.ptr ⟨k,[],0⟩)) :: e) rs
 | _=>False
theorem Bz {st:St} {z:Nat} {x:Operand} {cs:List C} (h:T.cH z st x=some (.one (.agg cs))):T.cH 0 st x=some (.one (.agg cs)):=by
 cases x with
 | const v=>
  simp only [cH] at h
  split at h
  simp at h
  split at h <;> simp at h
 | tmp t=>exact h
 | func f=>exact h
 | global g=>exact h
section
variable {P:Program} {w0:World} {g0:Gh} {n:Nat} {e:List En} {rs:Rs} {o:Oper} {K:Kn}
theorem uK {k:Nat} {m:Bool} {row:List C} {t:TS} (h:tV k m row e rs fun e rs=>K (.set k t :: e) rs):k < 1000000∧Lg n K (((aZ n e rs).fresh k ⟨m,row⟩).put (some k) t):=by
 obtain ⟨h1,e',fZ,h2,h3⟩:=yG (n:=n) h
 exact ⟨h1,by rw [h2];exact .put h3⟩
theorem Yr {k:Nat} {t:TypeId} {x:Operand} (ho:o.op= .box t x) (hd:o.dst=some k) (h:boxW P n e rs k t x K):gJ P w0 g0 o (aZ n e rs) (Lg n K):=by
 obtain ⟨z,h1⟩:=LK h
 obtain ⟨v,h2,h3⟩:=bY (rs:=rs) h1
 split at h3
 split at h3
 exact h3.elim
 obtain ⟨h4,h5⟩:=uK (n:=n) (yI h3)
 exact .box ho hd h2 (by simp) h5 h4
 exact h3.elim
 obtain ⟨h4,h5⟩:=uK (n:=n) (yI h3)
 exact .box ho hd h2 (by simp) h5 h4
 obtain ⟨h4,h5⟩:=uK (n:=n) (yI h3)
 exact .boxAgg ho hd (Bz h2) h5 h4
 exact h3.elim
def VD (P:Program) (k:Nat) (t:TypeId) (e:List En) (rs:Rs) (K:Kn):Prop:=Kh P t fun _ _ row=>zK row fun cs=>tV k true cs e rs fun e rs=>K (.set k (.one (.ptr ⟨k,[],0⟩)) :: e) rs
theorem Tl {k:Nat} {t:TypeId} (ho:o.op= .alloc t) (hd:o.dst=some k) (h:VD P k t e rs K):gJ P w0 g0 o (aZ n e rs) (Lg n K):=by
 obtain ⟨i,z,row,h1,h2,h3,h4,h5,h6⟩:=By h
 obtain ⟨h7,h8⟩:=uK (n:=n) (oq h6)
 exact .alloc ho hd (by rw [h1];exact h2) h3 h4 h5 h8 h7
def dOfW (row:List D) (k:D→Prop):Prop:=match row with
 | []=>k (.st [])
 | x :: l=>(match l with
  | []=>(match x with| .v y=>k (.v y)| .sl s ds=>k (.sl s ds)|_=>False)
  | y :: l=>k (.st (x :: y :: l)))
theorem Ys {row:List D} {k:D→Prop} (h:dOfW row k):∃ d,d.row=row∧k d:=by
 unfold dOfW at h
 split at h
 exact ⟨_,rfl,h⟩
 split at h
 split at h
 exact ⟨_,rfl,h⟩
 exact ⟨_,rfl,h⟩
 exact h.elim
 exact ⟨_,rfl,h⟩
def VE (P:Program) (n:Nat) (e:List En) (rs:Rs) (k:Nat) (t:TypeId) (x y:Operand) (K:Kn):Prop:=match P.underlying t with
 | some (.slice el)=>gH n e 0 x fun a=>Ek a fun m=>gH n e 0 y fun b=>Ek b fun m'=>Kh P el fun i z row=>oneOf i.size small fun sz=>BR (Nat.ble i.bytes 1048576 && Nat.beq row.length sz) (dOfW row fun d=>VB m m' fun m=>LH [k] k sz (List.replicate m d) e rs K) False
 | _=>False
theorem VF {k:Nat} {t:TypeId} {x y:Operand} (ho:o.op= .makeSlice t x y) (hd:o.dst=some k) (h:VE P n e rs k t x y K):gJ P w0 g0 o (aZ n e rs) (Lg n K):=by
 unfold VE at h
 split at h
 rename_i el hu
 obtain ⟨a,h1,h2⟩:=bY (rs:=rs) h
 obtain ⟨m,rfl,h3⟩:=pS h2
 obtain ⟨b,h4,h5⟩:=bY (rs:=rs) h3
 obtain ⟨m',rfl,h6⟩:=pS h5
 obtain ⟨i,z,row,h9,mo,qT,h12,rB,w8⟩:=By h6
 obtain ⟨uJ,Ki⟩:=bQ (oo w8)
 simp only [bh] at uJ
 obtain ⟨d,Nc,Tm⟩:=Ys Ki
 obtain ⟨m,rfl,rfl,Uu,VG⟩:=Tm
 obtain ⟨Yt,h22⟩:=yH (n:=n) VG
 exact .makeE ho hd h1 h4 hu h9 mo rfl uJ.1 qT h12 rB (ed uJ.2) Nc (Int.natCast_nonneg _) (by omega) h22 Yt
 exact h.elim
def Gf:Nat→List (Nat×Operand)→(List Operand→Prop)→Prop
 | _,[],k=>k []
 | i,(j,x) :: l,k=>BR (Nat.beq j i) (Gf (i + 1) l fun xs=>k (x :: xs)) False
theorem DQ:∀ {l:List (Nat×Operand)} {i:Nat} {k:List Operand→Prop},Gf i l k→∃ xs,l=(xs.zipIdx i).map (fun x=>(x.2,x.1))∧k xs
 | [],i,k,h=>⟨[],rfl,h⟩
 | (j,x) :: l,i,k,h=>by
  obtain ⟨h1,h2⟩:=bQ h
  obtain ⟨xs,h3,h4⟩:=DQ (l:=l) h2
  have h1:=ed h1
  subst h1
  exact ⟨x :: xs,by simp [List.zipIdx_cons,h3],h4⟩
def VH (n:Nat) (e:List En):List Operand→(List TV→Prop)→Prop
 | [],k=>k []
 | x :: l,k=>gH n e 0 x fun t=>match t with
  | .one tv=>VH n e l fun l=>k (tv :: l)
  | _=>False
theorem NX {n:Nat} {e:List En} {rs:Rs}:∀ {l:List Operand} {k:List TV→Prop},VH n e l k→∃ dm,T.zu 0 (aZ n e rs) l=some dm∧k dm
 | [],k,h=>⟨[],rfl,h⟩
 | x :: l,k,h=>by
  obtain ⟨t,h1,h2⟩:=bY (rs:=rs) h
  split at h2
  obtain ⟨dm,h3,h4⟩:=NX (rs:=rs) (l:=l) h2
  exact ⟨_,by simp [T.zu,h1,h3],h4⟩
  exact h2.elim
def elDW (t:TV) (k:D→Prop):Prop:=match t with
 | .c c=>(match c with
  | .ro d=>(match d with
   | .v x=>k (.v x)
   | .sl _ _=>k .hole
   | .st _=>k .hole
   | .hole=>k .hole)
  | .own _=>k .hole
  | .ref _=>k .hole
  | .dead=>k .hole)
 | .agg cs=>lG (cs.map dw) fun ds=>k (.st ds)
 | .ptr _=>k .hole
 | .b9 _=>k .hole
 | .Ef _=>k .hole
 | .qV _=>k .hole
 | .cut _ _ _ _=>k .hole
 | .dead=>k .hole
theorem RI {t:TV} {k:D→Prop} (h:elDW t k):k (mX t):=by
 cases t with
 | c c=>
  cases c with
  | ro d=>cases d <;> exact h
  | own d=>exact h
  | ref s=>exact h
  | dead=>exact h
 | agg cs=>exact gA.1 h
 | ptr _=>exact h
 | b9 _=>exact h
 | Ef _=>exact h
 | qV _=>exact h
 | cut _ _ _ _=>exact h
 | dead=>exact h
def VI:List TV→(List D→Prop)→Prop
 | [],k=>k []
 | t :: l,k=>elDW t fun d=>VI l fun l=>k (d :: l)
theorem NY:∀ {l:List TV} {k:List D→Prop},VI l k→k (l.map mX)
 | [],k,h=>h
 | t :: l,k,h=>NY (l:=l) (RI h)
def Gg (k:Nat):Nat→List C→Nat→List En→Rs→Kn→Prop
 | _,[],_,e,rs,K=>K e rs
 | 0,_ :: _,_,_,_,_=>False
 | n + 1,c :: cs,j,e,rs,K=>match c with
  | .ro d=>(match d with
   | .v _=>Gg k n cs (j + 1) e rs K
   | _=>False)
  | .ref s=>lP rs k [(0,0)] j fun _ _=>vq k [(0,0)] j (.ref s) e rs fun e rs=>f_ (cs.map (C.kill (ez k [(0,0)] j))) fun cs=>Gg k n cs (j + 1) e rs K
  | _=>False
theorem yJ {k:Nat} {g:C→C}:∀ {cs:List C} {f:C→C} {j:Nat} {st:St},St.ri k (cs.map g) f j st=St.ri k cs (fun c=>f (g c)) j st
 | [],f,j,st=>rfl
 | c :: cs,f,j,st=>by
  simp only [St.ri,List.map_cons]
  generalize f (g c)=c'
  cases c' with
  | ro d=>
   cases d with
   | v x=>exact yJ (cs:=cs)
   | sl _ _=>rfl
   | st _=>rfl
   | hole=>rfl
  | ref s=>
   simp only
   cases st.cellAt ⟨k,[(0,0)],j⟩ with
   | none=>rfl
   | some c0=>
    simp only
    cases st.d_ ⟨k,[(0,0)],j⟩ (.ref s) with
    | none=>rfl
    | some bJ=>exact yJ (cs:=cs)
  | own d=>rfl
  | dead=>rfl
theorem CP {k:Nat}:∀ {m:Nat} {cs:List C} {j:Nat} {e:List En} {rs:Rs} {K:Kn},Gg k m cs j e rs K→∃ bJ,St.ri k cs id j (aZ n e rs)=some bJ∧Lg n K bJ
 | m,[],j,e,rs,K,h=>⟨_,rfl, .mk (by cases m <;> exact h)⟩
 | 0,_ :: _,j,e,rs,K,h=>h.elim
 | m + 1,c :: cs,j,e,rs,K,h=>by
  unfold Gg at h
  split at h
  split at h
  obtain ⟨bJ,h1,h2⟩:=CP (m:=m) (cs:=cs) h
  exact ⟨bJ,by simp only [St.ri,id_eq];exact h1,h2⟩
  exact h.elim
  rename_i s
  obtain ⟨_,c0,h1,_,h2⟩:=fF (n:=n) (e:=e) h
  obtain ⟨bJ,h3,e',fZ,h4,h5⟩:=si (n:=n) h2
  subst h4
  obtain ⟨yy,h6,h7⟩:=CP (m:=m) (cs:=cs.map (C.kill (ez k [(0,0)] j))) (dK.1 h5)
  refine ⟨yy, ?_,h7⟩
  rw [yJ] at h6
  simp only [St.ri,id_eq,h1,h3]
  exact h6
  exact h.elim
def Gi (P:Program) (n:Nat) (e:List En) (rs:Rs) (k:Nat) (t:TypeId) (len:Nat) (parts:List (Nat×Operand)) (K:Kn):Prop:=match P.underlying t with
 | some (.slice el)=>Kh P el fun i z row=>oneOf i.size small fun sz=>(match parts with
  | []=>BR (Nat.beq len 0) (LH [k] k sz [] e rs K) False
  | p :: ps=>BR (Nat.ble 1 sz) (match ps with
   | []=>BR (Nat.beq len 1 && Nat.beq p.1 0 && Nat.ble sz 16777216) (VC P el fun zz=>gH n e zz p.2 fun t=>match t with
    | .one tv=>BR (Ap sz tv) (elDW tv fun d=>LG [k] k [.own (.sl sz [d])] e rs fun e rs=>f_ ((j8 tv).map (C.kill fun pl=>pl.k == k)) fun cs=>Gg k 40 cs 0 e rs fun e rs=>K (.set k (.one (.c (.ref ⟨k,[],0⟩))) :: e) rs) False
    | _=>False) False
   | q :: ps=>BR (Nat.ble (len * sz) 16777216) (Gf 0 (p :: q :: ps) fun xs=>BR (Nat.beq xs.length len) (VH n e xs fun dm=>BR (dm.all (Ap sz)) (VI dm fun ds=>LH [k] k sz ds e rs K) False) False) False) False)
 | _=>False
theorem yK {t:TypeId} {i:TypeInfo} {z:Value} (h:P.info? t=some i) (h1:i.zero=some z):(P.info? t).bind (·.zero)=some z:=by rw [h];exact h1
theorem VJ {st:St} {z:Nat} {x:Operand} {ks:List Nat}:T.cH z (st.only ks) x=T.cH z st x:=by cases x <;> rfl
theorem Kj {st:St} {z:Nat} {ks:List Nat}:∀ {xs:List Operand},T.zu z (st.only ks) xs=T.zu z st xs
 | []=>rfl
 | x :: xs=>by simp only [T.zu,VJ,Kj]
theorem NZ {m:Bool} {k len:Nat} {t:TypeId} {parts:Array (Nat×Operand)} (ho:o.op= .buildSlice t len parts) (hd:o.dst=some k) (h:Gi P n e rs k t len parts.toList K):Yq m P w0 g0 o (aZ n e rs) (Lg n K):=by
 unfold Gi at h
 split at h
 rename_i el hu
 obtain ⟨i,z,row,h1,h2,h3,h4,h5,h6⟩:=By h
 have h6:=oo h6
 have hs:j6 P el=some i.size:=by simp [j6,h1]
 split at h6
 rename_i hp
 obtain ⟨h7,h8⟩:=bQ h6
 have h7:=ed h7
 subst h7
 have I0:parts= #[]:=Array.ext' (by simpa using hp)
 subst I0
 obtain ⟨h9,mo⟩:=yH (n:=n) h8
 exact .of (s3.of (DO ho) (fun w0 g0=>⟨_,gJ.UU ho hd hu hs rfl h9⟩) (gJ.UU ho hd hu hs mo h9))
 rename_i p ps hp
 obtain ⟨h7,h8⟩:=bQ h6
 have h7:=fA h7
 split at h8
 obtain ⟨h9,mo⟩:=bQ h8
 simp only [bh] at h9
 have h91:=ed h9.1.1
 have h92:=ed h9.1.2
 subst h91
 obtain ⟨i0,x⟩:=p
 simp only at h92
 subst h92
 have I0:parts= #[(0,x)]:=Array.ext' (by simpa using hp)
 subst I0
 obtain ⟨zz,qT⟩:=LK mo
 obtain ⟨t',h12,rB⟩:=bY (rs:=rs) qT
 split at rB
 rename_i tv
 obtain ⟨w8,uJ⟩:=bQ rB
 obtain ⟨Ki,e',fZ,Nc,Tm⟩:=CN (n:=n) (RI uJ)
 obtain ⟨bJ,Uu,e2,Kk,VG,Yt⟩:=CP (n:=n) (dK.1 Tm)
 have hsz:i.size ≤ 16777216:=fA h9.2
 have hT:gJ P w0 g0 o (aZ n e rs) (Lg n K):=by
  refine .PN ho hd h12 hu hs (yK h1 h2) w8 h7 hsz (bJ:=bJ) ?_ ?_ Ki
  rw [yJ] at Uu
  rw [Nc]
  exact Uu
  rw [VG];exact .put Yt
 exact .of (s3.PN ho ⟨k,hd,Ki⟩ h12 hu hs (yK h1 h2) w8 h7 hsz hT)
 exact rB.elim
 obtain ⟨h9,mo⟩:=bQ h8
 obtain ⟨xs,qT,h12⟩:=DQ mo
 obtain ⟨rB,w8⟩:=bQ h12
 have rB:=ed rB
 obtain ⟨dm,uJ,Ki⟩:=NX (rs:=rs) w8
 obtain ⟨Nc,Tm⟩:=bQ Ki
 obtain ⟨Uu,VG⟩:=yH (n:=n) (NY Tm)
 exact .of (s3.of (DO ho) (fun w0 g0=>⟨_,gJ.UT ho hd (by rw [hp];exact qT) rB (by rw [Kj];exact uJ) hu hs (yK h1 h2) Nc h7 (fA h9) rfl Uu⟩)
  (gJ.UT ho hd (by rw [hp];exact qT) rB uJ hu hs (yK h1 h2) Nc h7 (fA h9) VG Uu))
 exact h.elim
end
end Go.Proofs.YtdliggkohdnipaaGreat.T
