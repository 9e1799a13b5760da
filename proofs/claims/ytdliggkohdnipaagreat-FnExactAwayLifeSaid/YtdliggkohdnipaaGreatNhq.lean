import Derived.Test.YtdliggkohdnipaaGreatHqq
import Derived.Test.YtdliggkohdnipaaGreatTzoq
import Derived.Test.YtdliggkohdnipaaGreatNgq
set_option linter.unusedVariables false
set_option linter.unusedSimpArgs false
namespace Go.Proofs.YtdliggkohdnipaaGreat.T
open Go
section
variable {a:Act} {ops:Array Oper} {g0:Gh} {K:Kx} {n:Nat} {o:Oper} {x y:Operand} {P:Program} {rs:Rs} {w w' w0:World}
def KC (e:List En) (b:Nat):List Nat→Prop→Prop
 | [],_=>False
 | x :: l,K=>lookW e x fun t=>nR t fun t=>match t with
  | .one (.ptr pl)=>(match pl with|⟨k,p,_⟩=>(match p with| []=>BR (Nat.beq k b) K (KC e b l K)|_=>KC e b l K))
  | _=>KC e b l K
theorem Of {n:Nat} {e:List En} {rs:Rs} {b:Nat} {K:Prop}:∀ {l:List Nat},(∀ x ∈ l,x < n)→KC e b l K→(∃ x ∈ l,∃ q,(aZ n e rs).tmps[x]? = some (.one (.ptr ⟨b,[],q⟩)))∧K
 | [],_,h=>h.elim
 | x :: l,hn,h=>by
  have h:=gN.1 (sc h)
  have go:KC e b l K→(∃ x' ∈ x :: l,∃ q,(aZ n e rs).tmps[x']? = some (.one (.ptr ⟨b,[],q⟩)))∧K:=fun h=>by
   obtain ⟨⟨x',hx',q,h2⟩,hk⟩:=Of (rs:=rs) (fun y hy=>hn y (xb _ hy)) h
   exact ⟨⟨x',xb _ hx',q,h2⟩,hk⟩
  generalize ht:look e x=t at h
  split at h
  rename_i pl
  obtain ⟨k,p,q⟩:=pl
  simp only at h
  split at h
  rcases gM.1 h with ⟨h1,h2⟩|⟨_,h2⟩
  have h1:=ed h1
  subst h1
  exact ⟨⟨x,uy,q,by rw [Br (hn x uy),ht]⟩,h2⟩
  exact go h2
  exact go h
  exact go h
def KD (n:Nat):List Nat→Bool
 | []=>true
 | x :: l=>Nat.blt x n && KD n l
theorem BO {n:Nat}:∀ {l:List Nat},KD n l=true→∀ x ∈ l,x < n
 | [],_,x,hx=>by cases hx
 | y :: l,h,x,hx=>by
  simp only [KD,bh] at h
  rcases m8.1 hx with rfl|hx
  exact fA h.1
  exact BO h.2 x hx
def Wj (P:Program) (n:Nat) (e:List En) (rs:Rs) (s:List Nat) (op:Op) (k:TS→Prop):Prop:=match op with
 | .fieldAddr t x f=>gH n e 0 x fun a=>(match a with
  | .one (.ptr pl)=>(match pl with|⟨b,p,q⟩=>Vq P t f fun off=>oneOf (q + off) small fun q=>k (.one (.ptr ⟨b,p,q⟩)))
  | _=>False)
 | .load t x=>gH n e 0 x fun a=>(match a with
  | .one (.ptr pl)=>(match pl with|⟨b,p,q⟩=>(match p with
   | []=>BR (KD n s) (KC e b s (match wZ P t with
    | some false=>lP rs b [] q fun m c=>BR m (NO b [] q c fun c=>k (.one (.c c))) False
    | _=>False)) False
   | _=>False))
  | _=>False)
 | .move x=>BR (AA x) False (gH n e 0 x k)
 | .assign x=>BR (AA x) False (gH n e 0 x k)
 | .extract x i=>gH n e 0 x fun a=>(match a with
  | .mj ts=>sg ts i fun t=>k (.one t)
  | _=>False)
 | _=>False
section
variable {P:Program} {w0:World} {g0:Gh} {n:Nat} {e:List En} {rs:Rs} {o:Oper}
theorem I7.extract {st:St} {s:List Nat} {x:Operand} {i:Nat} {ts:List TV} {t:TV} (ho:o.op= .extract x i) (hx:T.cH 0 st x=some (.mj ts)) (hi:ts[i]? = some t):I7 P w0 g0 s o st (.one t):=fun a w g hR=>by
 have this:=hR.cH hx
 generalize hv:a.eval x=v at this
 cases this with
 | mj ts us hs h=>
  have hlt:i < us.size:=by rw [hs];exact (aM.1 hi).1
  refine ⟨us[i],fun w' _=> ?_, .one _ _ (h i t _ hi (rY hlt))⟩
  simp [execOp,ho,hv,Instr.extract,rY hlt]
theorem Wk {s:List Nat} {k:TS→Prop} (h:Wj P n e rs s o.op k):∃ t,I7 P w0 g0 s o (aZ n e rs) t∧k t:=by
 obtain ⟨dst,op,ty,pos,af,gd⟩:=o
 unfold Wj at h
 simp only at h
 split at h
 obtain ⟨a,h1,h2⟩:=bY (rs:=rs) h
 split at h2
 rename_i pl
 obtain ⟨b,p,q⟩:=pl
 simp only at h2
 obtain ⟨off,h3,h4⟩:=LD h2
 exact ⟨_, .field rfl h1 h3,oo h4⟩
 exact h2.elim
 obtain ⟨a,h1,h2⟩:=bY (rs:=rs) h
 split at h2
 rename_i pl
 obtain ⟨b,p,q⟩:=pl
 simp only at h2
 split at h2
 obtain ⟨h3,h4⟩:=bQ h2
 obtain ⟨⟨x0,hx0,q',hq⟩,h5⟩:=Of (rs:=rs) (BO h3) h4
 split at h5
 rename_i ht
 obtain ⟨m,c,h6,h7,h8⟩:=fF (n:=n) (e:=e) h5
 obtain ⟨rfl,h9⟩:=bQ h8
 exact ⟨_, .load rfl h1 x0 hx0 hq ht h6 h7,Bu h9⟩
 exact h5.elim
 exact h2.elim
 exact h2.elim
 rename_i x
 obtain ⟨h1,h2⟩:=rm h
 obtain ⟨t,h3,h4⟩:=bY (rs:=rs) h2
 exact ⟨t, .pure (.move 0 rfl h3) rfl,h4⟩
 rename_i x
 obtain ⟨h1,h2⟩:=rm h
 obtain ⟨t,h3,h4⟩:=bY (rs:=rs) h2
 exact ⟨t, .pure (.assign 0 rfl h3) rfl,h4⟩
 obtain ⟨a,h1,h2⟩:=bY (rs:=rs) h
 split at h2
 obtain ⟨t,h3,h4⟩:=iK h2
 exact ⟨_, .extract rfl h1 h3,h4⟩
 exact h2.elim
 exact h.elim
end
def R1 (e:List En) (rs:Rs) (ks:List Nat):List Nat→Prop
 | []=>True
 | x :: l=>lookW e x fun t=>nR t fun t=>match t with
  | .one (.ptr pl)=>(match pl with|⟨a,p,q⟩=>BR (Em a ks) False (lP rs a p q fun m _=>BR m (R1 e rs ks l) False))
  | _=>False
theorem GW {n:Nat} {e:List En} {rs:Rs} {ks:List Nat}:∀ {l:List Nat},(∀ x ∈ l,x < n)→R1 e rs ks l→As (aZ n e rs) ks l
 | [],_,_=> .nil
 | x :: l,hn,h=>by
  have h:=gN.1 (sc h)
  generalize ht:look e x=t at h
  split at h
  rename_i pl
  obtain ⟨a,p,q⟩:=pl
  obtain ⟨h1,h2⟩:=rm h
  obtain ⟨m,c,h3,h4,h5⟩:=fF (n:=n) (e:=e) h2
  obtain ⟨rfl,h6⟩:=bQ h5
  exact .cons (by rw [Br (hn x uy),ht]) h3 h4 (by rw [← mz];exact h1) (GW (fun y hy=>hn y (xb _ hy)) h6)
  exact h.elim
def Og (ks:List Nat):Rs→(Rs→Prop)→Prop
 | [],k=>k []
 | (a,⟨m,row⟩) :: l,k=>BR (Em a ks) (Og ks l fun l=>k ((a,⟨m,row⟩) :: l)) (Og ks l k)
theorem BP {ks:List Nat}:∀ {rs:Rs} {k:Rs→Prop},Og ks rs k→k (rs.filter fun x=>ks.contains x.1)
 | [],k,h=>h
 | (a,⟨m,row⟩) :: l,k,h=>by
  rcases gM.1 h with ⟨h1,h2⟩|⟨h1,h2⟩
  have JL:ks.contains a=true:=by rw [← mz];exact h1
  have:=BP (rs:=l) h2
  rw [List.filter_cons,if_pos JL]
  exact this
  have JL:ks.contains a=false:=by rw [← mz];exact h1
  have:=BP (rs:=l) h2
  rw [List.filter_cons,if_neg (by rw [JL];decide)]
  exact this
section
variable {P:Program} {w0:World} {g0:Gh} {st:St}
theorem Qx {args:Array Operand} {qA:Array TypeId} (ho:o.op= .call { callee:= .builtin .copy,args:=args,argTypes:=qA }) {n:Next} (h:(execOp a.eval o).run P w= .ok n w'):∃ v,n= .value v:=by
 simp [execOp,ho,resolve,invoke,builtin] at h
 generalize Sem.run P (Builtin.copy_ qA o.type (Array.map a.eval args)) w=r at h
 cases r with
 | ok v w1=>
  simp [Result.andThen] at h
  exact ⟨v,h.1.symm⟩
 | halt x w1=>simp [Result.andThen] at h
theorem TA.opB' {ops:Array Oper} {ws bs s:List Nat} {i:Nat} {l u:Ord} {Q:St→Prop} {o:Oper} {tl:List Oper} (ks:List Nat) (hin:ws.contains i=true∧bs.contains i=true) (uq:ops.toList.drop i=o :: tl) (hg:yes ops st o)
  (hv:∀ {a:Act} {w:World} {n:Next} {w':World},(execOp a.eval o).run P w= .ok n w'→(∃ v,n= .value v) ∨ n= .skip)
  (hps:As st ks s)
  (hf:∀ w0 g0,gJ P w0 g0 o (st.only ks) (fun _=>True))
  (h:∀ K:St→Prop,(∀ bJ,TT P w0 g0 ops ws bs s l bJ Q→K bJ)→gJ P w0 g0 o st K) (hu:TA P w0 g0 ops ws bs s u st Q):TA P w0 g0 ops ws bs s (.alt i l u) st Q:=TA.alt (fun Q' K hK a w g hR=>by
 unfold NK
 rw [if_pos hin.1,if_pos hin.2]
 unfold Us
 simp only [rz uq,tT hg hR,if_true]
 have hA:=h _ (fun _ h=>h) a w g hR K (fun _ _ _=>False) fun bJ a' w' g' hq iU=>hK bJ a' w' g' hq iU
 have hB:=hf w (g.frame ks w.heap.size) a w _ (hR.frame ks) (fun _ w'=>∃ g',m7 w (g.frame ks w.heap.size) w' g') (fun _ _ _=>False) fun bJ a' w' g' _ iU=>⟨g',iU.ks⟩
 unfold Oper.wp at hA hB
 generalize hr:(execOp a.eval o).run P w=r at hA hB
 cases r with
 | halt x w'=>cases x <;> exact hA.elim
 | ok n w'=>
  rcases hv hr with ⟨v,rfl⟩|rfl
  all_goals
   have hA':=hA
   obtain ⟨g',hKp⟩:∃ g',m7 w (g.frame ks w.heap.size) w' g':=hB
   refine ⟨⟨hKp.size,fun x hx A hAd hlt=> ?_⟩,hA'⟩
   obtain ⟨pl,c,hps,DE,hpm,hpk⟩:=hps.get x hx
   have h2:=hR.tm x _ hps
   rw [hAd] at h2
   cases h2 with
   | one _ _ h2=>
    cases h2 with
    | ptr _=>
     have h3:=((hR.cellAt DE).2.2.2 hpm).1
     refine (hKp.block _ hlt (.inl ?_)).1
     show (g.frame ks w.heap.size).o (g.ad pl.k pl.p).1= .ro
     have h4:(oS pl.k pl.p).gZ = some pl.k:=by unfold oS;split <;> rfl
     simp only [Gh.frame,h3,h4,hpk,gD,if_false]
     exact if_pos hlt) hu
end
section
variable {P:Program} {w0:World} {g0:Gh} {st:St}
theorem s3.of' {o:Oper} {Q:St→Prop} (hv:∀ {a:Act} {w:World} {n:Next} {w':World},(execOp a.eval o).run P w= .ok n w'→∃ v,n= .value v) (hf:∀ w0 g0,gJ P w0 g0 o (st.only []) (fun _=>True)) (h:gJ P w0 g0 o st Q):s3 P w0 g0 o st Q:=fun a w g hR K hK=>by
 have hA:=h a w g hR K (fun _ _ _=>False) hK
 have hB:=hf w (g.frame [] w.heap.size) a w _ (hR.frame []) (fun _ w'=>∃ g',m7 w (g.frame [] w.heap.size) w' g') (fun _ _ _=>False) fun bJ a' w' g' _ iU=>⟨g',iU.ks⟩
 unfold Oper.wp at hA hB
 generalize hr:(execOp a.eval o).run P w=r at hA hB
 cases r with
 | halt x w'=>cases x <;> exact hA.elim
 | ok n w'=>
  obtain ⟨v,rfl⟩:=hv hr
  obtain ⟨g',Lu⟩:∃ g',m7 w (g.frame [] w.heap.size) w' g':=hB
  refine ⟨⟨Lu.os,Lu.tape,Lu.output,Lu.size,fun b hb=>(Lu.block b hb (.inl ?_)).1⟩,hA⟩
  simp only [Gh.frame]
  split
  simp [hb]
  exact if_pos hb
theorem yV {m:Sem Value} {n:Next} (h:(m >>= fun x=>pure (Next.value x):Sem Next).run P w= .ok n w'):∃ v,n= .value v:=by
 simp only [Sem.run_bind] at h
 generalize Sem.run P m w=r at h
 cases r with
 | ok v w1=>
  simp [Result.andThen] at h
  exact ⟨v,h.1.symm⟩
 | halt x w1=>simp [Result.andThen] at h
theorem Qy {t:TypeId} (ho:o.op= .store t x y) {n:Next} (h:(execOp a.eval o).run P w= .ok n w'):n= .skip:=by
 simp [execOp,ho] at h
 generalize Sem.run P (Instr.storeAt t (a.eval x) (a.eval y)) w=r at h
 cases r with
 | ok v w1=>
  simp [Result.andThen] at h
  exact h.1.symm
 | halt x w1=>simp [Result.andThen] at h
def makes:Op→Bool
 | .alloc _=>true
 | .box _ _=>true
 | .makeSlice _ _ _=>true
 | .build _ _=>true
 | _=>false
theorem Oh (ho:makes o.op=true) {n:Next} (h:(execOp a.eval o).run P w= .ok n w'):∃ v,n= .value v:=by
 obtain ⟨dst,op,ty,pos,af,gd⟩:=o
 simp only at ho
 unfold makes at ho
 split at ho
 exact yV h
 exact yV h
 exact yV h
 exact yV h
 cases ho
end
def Ord.XS:Ord→Bool
 | .alt _ _ _=>true
 | .stop=>true
 | _=>false
def Ord.isAlt:Ord→Bool
 | .alt _ _ _=>true
 | _=>false
def Qz (P:Program) (n:Nat) (ws s:List Nat) (i b:Nat) (o:Oper) (e:List En) (rs:Rs) (K:Kn):Prop:=BR (Em i ws) False (match b with
 | 0=>El P n e rs o.op fun t=>mY o.dst t e rs K
 | _=>Wj P n e rs s o.op fun t=>mY o.dst t e rs K)
def Fv (n:Nat) (e:List En) (x y:Operand) (k:List Nat→Prop):Prop:=gH n e 0 x fun a=>(match a with
 | .one (.c (.ref pl))=>(match pl with|⟨b,_,_⟩=>(match y with
  | .const _=>k [b]
  | _=>gH n e 0 y fun c=>(match c with
   | .one (.c (.ref pl))=>(match pl with|⟨b2,_,_⟩=>k [b,b2])
   | .one (.cut pl _ _ _)=>(match pl with|⟨b2,_,_⟩=>k [b,b2])
   | _=>k [b])))
 | .one (.cut pl _ _ _)=>(match pl with|⟨b,_,_⟩=>gH n e 0 y fun c=>(match c with
   | .one (.c (.ref pl))=>(match pl with|⟨b2,_,_⟩=>k [b,b2])
   | .one (.cut pl _ _ _)=>(match pl with|⟨b2,_,_⟩=>k [b,b2])
   | _=>k [b]))
 | _=>False)
theorem GX {e:List En} {k:List Nat→Prop} (h:Fv n e x y k):∃ ks,k ks:=by
 unfold Fv at h
 obtain ⟨a,ha,h⟩:=bY (rs:=[]) h
 clear ha
 split at h
 rename_i pl
 obtain ⟨b,p,q⟩:=pl
 simp only at h
 split at h
 exact ⟨_,h⟩
 obtain ⟨c,hc,h⟩:=bY (rs:=[]) h
 clear hc
 split at h
 rename_i pl
 obtain ⟨b2,p,q⟩:=pl
 exact ⟨_,h⟩
 rename_i pl lo hi s
 obtain ⟨b2,p,q⟩:=pl
 exact ⟨_,h⟩
 exact ⟨_,h⟩
 rename_i pl z lo hi
 obtain ⟨b,p,q⟩:=pl
 simp only at h
 obtain ⟨c,hc,h⟩:=bY (rs:=[]) h
 clear hc
 split at h
 rename_i pl
 obtain ⟨b2,p,q⟩:=pl
 exact ⟨_,h⟩
 rename_i pl lo hi s
 obtain ⟨b2,p,q⟩:=pl
 exact ⟨_,h⟩
 exact ⟨_,h⟩
 exact h.elim
def appS (P:Program) (w0:World) (g0:Gh) (n:Nat) (s:List Nat) (o:Oper) (e:List En) (rs:Rs) (K:Kn):Prop:=match o.op with
 | .call c=>(match c with
  | ⟨cl,az,_⟩=>(match cl with
   | .builtin b=>(match b with
    | .append=>(match az with|⟨az⟩=>(match az with
     | [x,y]=>Fv n e x y fun ks=>BR (KD n s) (R1 e rs ks s∧(∀ w0 g0,Og ks rs fun rs=>rp false P w0 g0 n o e rs fun _ _=>True)∧rp false P w0 g0 n o e rs K) False
     | _=>False))
    | .copy=>(match az with|⟨az⟩=>(match az with
     | [x,y]=>Fv n e x y fun ks=>BR (KD n s) (R1 e rs ks s∧(∀ w0 g0,Og ks rs fun rs=>rp false P w0 g0 n o e rs fun _ _=>True)∧rp false P w0 g0 n o e rs K) False
     | _=>False))
    | _=>False)
   | _=>False))
 | .store _ _ _=>(match s with
  | []=>(∀ w0 g0,rp false P w0 g0 n o e rs fun _ _=>True)∧rp false P w0 g0 n o e rs K
  | _=>False)
 | _=>False
def tAlt (P:Program) (w0:World) (g0:Gh) (n:Nat) (ws bs s:List Nat) (i:Nat) (o:Oper) (e:List En) (rs:Rs) (K:Kn):Prop:=BR (Em i ws) (BR (Em i bs) (appS P w0 g0 n s o e rs K) (rp false P w0 g0 n o e rs K)) (BR (makes o.op) ((∀ w1 g1,rp false P w1 g1 n o e [] fun _ _=>True)∧rp false P w0 g0 n o e rs K) (rp true P w0 g0 n o e rs K))
def wT (P:Program) (w0:World) (g0:Gh) (n:Nat) (ops:List Oper) (ws bs s:List Nat) (t:Ord):List En→Rs→Kn→Prop:=
 @Ord.rec (fun _=>List En→Rs→Kn→Prop)
  (fun e rs K=>K e rs)
  (fun i b t ih e rs K=>BR t.XS False (sg ops i fun o=>qX n ops o.guard e (fun e=>Qz P n ws s i b o e rs fun e rs=>ih e rs K) (fun _=>False)))
  (fun t ih e rs K=>BR t.isAlt (ih e rs K) False)
  (fun i t u iht ihu e rs K=>BR (t.XS || !u.XS) False ((sg ops i fun o=>qX n ops o.guard e (fun e=>tAlt P w0 g0 n ws bs s i o e rs fun e rs=>iht e rs K) (fun _=>False))∧ihu e rs K))
  (fun _ _ _=>True) t
theorem xO {P:Program} {w0:World} {g0:Gh} {n:Nat} {ops:Array Oper} {ws bs s:List Nat}:∀ {t:Ord} {e:List En} {rs:Rs} {K:Kn},wT P w0 g0 n ops.toList ws bs s t e rs K→
  (t.XS=false→TT P w0 g0 ops ws bs s t (aZ n e rs) (Lg n K))∧(t.XS=true→TA P w0 g0 ops ws bs s t (aZ n e rs) (Lg n K))
 | .done,e,rs,K,h=>⟨fun _=> .nil (.mk h),fun h=>Bool.noConfusion h⟩
 | .stop,e,rs,K,h=>⟨fun h=>Bool.noConfusion h,fun _=>TA.stop⟩
 | .fork t,e,rs,K,h=>by
   refine ⟨fun _=> ?_,fun h=>Bool.noConfusion h⟩
   have h:BR t.isAlt (wT P w0 g0 n ops.toList ws bs s t e rs K) False:=h
   obtain ⟨h1,h2⟩:=bQ h
   cases t with
   | alt i t u=>exact .fork ((xO h2).2 rfl) (by simp [Ord.alts])
   | _=>cases h1
 | .quiet i b t,e,rs,K,h=>by
   refine ⟨fun _=> ?_,fun h=>Bool.noConfusion h⟩
   have h:BR t.XS False (sg ops.toList i fun o=>qX n ops.toList o.guard e (fun e=>Qz P n ws s i b o e rs fun e rs=>wT P w0 g0 n ops.toList ws bs s t e rs K) (fun _=>False)):=h
   obtain ⟨h1,h2⟩:=rm h
   obtain ⟨o,h0,h3⟩:=iK h2
   have uq:=xp h0
   obtain ⟨e',he,h4⟩:=uL (rs:=rs) h3
   rw [← he]
   rcases h4 with ⟨h5,h6⟩|⟨_,h6⟩
   ·unfold Qz at h6
    obtain ⟨h7,h8⟩:=rm h6
    have YZ:ws.contains i=false:=by rw [← mz];exact h7
    cases b with
    | zero=>
     obtain ⟨t',h9,mo⟩:=Fo (w0:=w0) (g0:=g0) h8
     obtain ⟨e2,Kk,hs,hk⟩:=gF (n:=n) mo
     exact .U0 YZ uq h5 h9 hs ((xO hk).1 h1)
    | succ b=>
     obtain ⟨t',h9,mo⟩:=Wk (w0:=w0) (g0:=g0) h8
     obtain ⟨e2,Kk,hs,hk⟩:=gF (n:=n) mo
     exact .valS YZ uq h5 h9 hs ((xO hk).1 h1)
   ·exact h6.elim
 | .alt i t u,e,rs,K,h=>by
   refine ⟨fun h=>Bool.noConfusion h,fun _=> ?_⟩
   have h:BR (t.XS || !u.XS) False ((sg ops.toList i fun o=>qX n ops.toList o.guard e (fun e=>tAlt P w0 g0 n ws bs s i o e rs fun e rs=>wT P w0 g0 n ops.toList ws bs s t e rs K) (fun _=>False))∧wT P w0 g0 n ops.toList ws bs s u e rs K):=h
   obtain ⟨h1,h2,hu⟩:=rm h
   simp only [Bool.or_eq_false_iff,Bool.not_eq_false'] at h1
   have hu:=(xO hu).2 h1.2
   obtain ⟨o,h0,h3⟩:=iK h2
   have uq:=xp h0
   obtain ⟨e',he,h4⟩:=uL (rs:=rs) h3
   rw [← he] at hu ⊢
   rcases h4 with ⟨h5,h6⟩|⟨_,h6⟩
   ·unfold tAlt at h6
    rcases gM.1 h6 with ⟨h7,h8⟩|⟨h7,h8⟩
    ·have YZ:ws.contains i=true:=by rw [← mz];exact h7
     rcases gM.1 h8 with ⟨h9,mo⟩|⟨h9,mo⟩
     ·have h9':bs.contains i=true:=by rw [← mz];exact h9
      unfold appS at mo
      split at mo
      ·rename_i c hc
       obtain ⟨cl,⟨az⟩,ts⟩:=c
       simp only at mo
       split at mo
       ·split at mo
        ·split at mo
         ·obtain ⟨ks,qT⟩:=GX mo
          obtain ⟨h12,rB,w8,uJ⟩:=bQ qT
          have hk:gJ P w0 g0 o (aZ n e' rs) _:=j_ uJ
          refine .opB' ks ⟨YZ,h9'⟩ uq h5 (fun h=> .inl (Ly hc h)) (GW (BO h12) rB) (fun w1 g1=> ?_) (fun K2 NL=>hk.mono fun st ⟨e2,Kk,hs,hk⟩=>NL st (by subst hs;exact (xO hk).1 h1.1)) hu
          have Ki:=BP (w8 w1 g1)
          have Nc:gJ P w1 g1 o (aZ n e' (rs.filter fun x=>ks.contains x.1)) _:=j_ Ki
          exact Nc.mono fun _ _=>trivial
         ·exact mo.elim
        ·split at mo
         ·obtain ⟨ks,qT⟩:=GX mo
          obtain ⟨h12,rB,w8,uJ⟩:=bQ qT
          have hk:gJ P w0 g0 o (aZ n e' rs) _:=j_ uJ
          refine .opB' ks ⟨YZ,h9'⟩ uq h5 (fun h=> .inl (Qx hc h)) (GW (BO h12) rB) (fun w1 g1=> ?_) (fun K2 NL=>hk.mono fun st ⟨e2,Kk,hs,hk⟩=>NL st (by subst hs;exact (xO hk).1 h1.1)) hu
          have Ki:=BP (w8 w1 g1)
          have Nc:gJ P w1 g1 o (aZ n e' (rs.filter fun x=>ks.contains x.1)) _:=j_ Ki
          exact Nc.mono fun _ _=>trivial
         ·exact mo.elim
        ·exact mo.elim
       ·exact mo.elim
      ·rename_i hst
       split at mo
       ·obtain ⟨qT,h12⟩:=mo
        have hk:gJ P w0 g0 o (aZ n e' rs) _:=j_ h12
        refine .opB' (rs.map Prod.fst) ⟨YZ,h9'⟩ uq h5 (fun h=> .inr (Qy hst h)) .nil (fun w1 g1=> ?_) (fun K2 NL=>hk.mono fun st ⟨e2,Kk,hs,hk⟩=>NL st (by subst hs;exact (xO hk).1 h1.1)) hu
        have Nc:gJ P w1 g1 o (aZ n e' rs) _:=j_ (qT w1 g1)
        have Tm:(aZ n e' rs).only (rs.map Prod.fst)=aZ n e' rs:=by
         simp only [St.only,aZ,St.mk.injEq,true_and]
         refine List.filter_eq_self.2 fun x hx=> ?_
         exact List.contains_iff_mem.2 (j7.2 ⟨x,hx,rfl⟩)
        rw [Tm]
        exact Nc.mono fun _ _=>trivial
       ·exact mo.elim
      ·exact mo.elim
     ·have h9':bs.contains i=false:=by rw [← mz];exact h9
      have hk:gJ P w0 g0 o (aZ n e' rs) _:=j_ mo
      exact .opK ⟨YZ,h9'⟩ uq h5 (fun K2 NL=>hk.mono fun st ⟨e2,Kk,hs,hk⟩=>NL st (by subst hs;exact (xO hk).1 h1.1)) hu
    ·have YZ:ws.contains i=false:=by rw [← mz];exact h7
     have hk:s3 P w0 g0 o (aZ n e' rs) (Lg n fun e rs=>wT P w0 g0 n ops.toList ws bs s t e rs K):=by
      rcases gM.1 h8 with ⟨h9,mo,qT⟩|⟨_,h9⟩
      ·have h12:gJ P w0 g0 o (aZ n e' rs) _:=j_ qT
       refine s3.of' (Oh h9) (fun w1 g1=> ?_) h12
       have rB:gJ P w1 g1 o (aZ n e' []) _:=j_ (mo w1 g1)
       have w8:(aZ n e' rs).only []=aZ n e' []:=by simp [St.only,aZ]
       rw [w8]
       exact rB.mono fun _ _=>trivial
      ·exact j_ (m:=true) h9
     exact .opM YZ uq h5 (fun K2 NL=>hk.mono fun st ⟨e2,Kk,hs,hk⟩=>NL st (by subst hs;exact (xO hk).1 h1.1)) hu
   ·exact h6.elim
theorem gp {e:List En} (ws bs s:List Nat) (t:Ord) (h:wT P w0 g0 n ops.toList ws bs s t e rs (K .normal)) (ht:t.XS=false:=by exact rfl) (hB:(Region.noSelect ops && t.ok ops ws bs s ops.size (Array.replicate ops.size false))=true:=by decide +kernel) (hm:P.follows .mixedOrders=true:=by exact rfl):
  Ts P w0 g0 n ops e rs K:=⟨fun i=>TC.Rz ws bs s t hm hB (by
 have h1:=(xO h).1 ht
 exact fun fuel listed hs hc he a w g hR Q' hQ=>h1 fuel listed hs hc he a w g hR Q' fun bJ a' w' g' ⟨e',fZ,hs,hk⟩ iU=>hQ bJ a' w' g' ⟨e',fZ,hs,hk⟩ iU)⟩
theorem xP {e:List En} (ws bs s:List Nat) (t:Ord) (js vs xs:List Nat) (zy:List En) (rts:Rs) 
  (h:Kr n e js fun ke=>yQ xs rs fun kr=>wT P w0 g0 n ops.toList ws bs s t e rs (fun e' fZ=>GD e' fZ vs (zy ++ ke) (rts ++ kr))∧I9 zy ke fun E=>I9 rts kr fun R=>K .normal E R)
  (ht:t.XS=false:=by exact rfl) (hB:(Region.noSelect ops && t.ok ops ws bs s ops.size (Array.replicate ops.size false))=true:=by decide +kernel) (hm:P.follows .mixedOrders=true:=by exact rfl):Ts P w0 g0 n ops e rs K:=by
 obtain ⟨ke,h⟩:=xq h
 obtain ⟨kr,h1,h2⟩:=sr h
 have h2:=rC (rC h2)
 refine ⟨fun i=>TC.Rz ws bs s t hm hB ?_⟩
 have h3:=(xO h1).1 ht
 refine fun fuel listed hs hc he a w g hR Q' hQ=>h3 fuel listed hs hc he a w g hR Q' fun bJ a' w' g' ⟨e',fZ,hs,hk⟩ iU=> ?_
 subst hs
 obtain ⟨g2,DG⟩:=hk.can iU
 exact hQ _ a' w' g2 ⟨_,_,rfl,h2⟩ DG
end
section
variable {t w:Int} {g x:ax}
set_option maxRecDepth 100000
set_option maxHeartbeats 8000000
theorem Oi (h:w=5):ow g w=c8 g (tj (cV g.Prog g.Pc).X):=if_pos h
theorem L_ (h:¬ w=5):ow g w=c8 g sw:=if_neg h
theorem pl_no (h:¬ aK g=2):ir g=g:=by unfold ir;rw [if_pos h]
theorem R2 (h:aK g=2) (h1:(0 ≤ g.A∧g.A ≤ 99)∧(0 ≤ (cV g.Prog g.Pc).X∧(cV g.Prog g.Pc).X ≤ 99)):ir g=if (cV g.Prog g.Pc).Op=1 then fU { g with A:=(cV g.Prog g.Pc).X } else if (cV g.Prog g.Pc).Op=2 then fU { g with A:=(g.A + (cV g.Prog g.Pc).X).tmod 100 } else if (cV g.Prog g.Pc).Op=8∧g.A=0 then { g with Pc:=(cV g.Prog g.Pc).X } else fU g:=by
 unfold ir
 rw [if_neg (by omega)]
 simp only
 rw [if_pos (by rw [bh];exact ⟨decide_eq_true h1.1,decide_eq_true h1.2⟩)]
theorem Ma (h:aK g=2) (h1:¬ ((0 ≤ g.A∧g.A ≤ 99)∧(0 ≤ (cV g.Prog g.Pc).X∧(cV g.Prog g.Pc).X ≤ 99))):ir g=fU g:=by
 unfold ir
 rw [if_neg (by omega)]
 simp only
 rw [if_neg (fun e=>h1 (by rw [bh] at e;exact ⟨of_decide_eq_true e.1,of_decide_eq_true e.2⟩))]
theorem Wl (h:aK g=2) (h1:(0 ≤ g.A∧g.A ≤ 99)∧(0 ≤ (cV g.Prog g.Pc).X∧(cV g.Prog g.Pc).X ≤ 99)) (h2:(cV g.Prog g.Pc).Op=1):ir g=fU { g with A:=(cV g.Prog g.Pc).X }:=by rw [R2 h h1,if_pos h2]
theorem Wm (h:aK g=2) (h1:(0 ≤ g.A∧g.A ≤ 99)∧(0 ≤ (cV g.Prog g.Pc).X∧(cV g.Prog g.Pc).X ≤ 99)) (h2:(cV g.Prog g.Pc).Op=2):ir g=fU { g with A:=(g.A + (cV g.Prog g.Pc).X).tmod 100 }:=by rw [R2 h h1,if_neg (by omega),if_pos h2]
theorem R3 (h:aK g=2) (h1:(0 ≤ g.A∧g.A ≤ 99)∧(0 ≤ (cV g.Prog g.Pc).X∧(cV g.Prog g.Pc).X ≤ 99)) (h2:(cV g.Prog g.Pc).Op=8∧g.A=0):ir g={ g with Pc:=(cV g.Prog g.Pc).X }:=by rw [R2 h h1,if_neg (by omega),if_neg (by omega),if_pos h2]
theorem Fw (h:aK g=2) (h1:(0 ≤ g.A∧g.A ≤ 99)∧(0 ≤ (cV g.Prog g.Pc).X∧(cV g.Prog g.Pc).X ≤ 99)) (h2:¬ (cV g.Prog g.Pc).Op=1∧¬ (cV g.Prog g.Pc).Op=2∧¬ ((cV g.Prog g.Pc).Op=8∧g.A=0)):ir g=fU g:=by rw [R2 h h1,if_neg h2.1,if_neg h2.2.1,if_neg h2.2.2]
def fC (x:ax) (zQ want:Int):ax×Bool:=
 if want=6 then (c8 x (lR (cV x.Prog x.Pc).X),false) else if want=5∧gb zQ 1=true then (c8 x (tj (cV x.Prog x.Pc).X),false)
 else if want=7∧gb zQ 2=true then (c8 x sw,false) else if want=7 then (held x,true) else (fU x,true)
theorem Mb (h:w=6):fC x t w=(c8 x (lR (cV x.Prog x.Pc).X),false):=if_pos h
theorem QA (h:w=5) (h1:gb t 1=true):fC x t w=(c8 x (tj (cV x.Prog x.Pc).X),false):=by unfold fC;rw [if_neg (by omega),if_pos ⟨h,h1⟩]
theorem Fx (h:w=7) (h1:gb t 2=true):fC x t w=(c8 x sw,false):=by unfold fC;rw [if_neg (by omega),if_neg (by omega),if_pos ⟨h,h1⟩]
theorem Fy (h:w=7) (h1:gb t 2=false):fC x t w=(held x,true):=by unfold fC;rw [if_neg (by omega),if_neg (by omega),if_neg (fun e=>by rw [h1] at e;exact absurd e.2 (by decide)),if_pos h]
theorem uO (h:¬ w=6∧¬ w=7) (h1:¬ w=5 ∨ gb t 1=false):fC x t w=(fU x,true):=by
 unfold fC
 rw [if_neg h.1,if_neg (fun e=>by rcases h1 with h1|h1;exact h1 e.1;rw [h1] at e;exact absurd e.2 (by decide)),if_neg (fun e=>h.2 e.1),if_neg h.2]
theorem GY (g:ax) [Q (aJ g)] [DE:Q (-9223372036854775808 ≤ g.Pc)]:aF Tryz.prog 339 [A (bK g)] (RG [.a (bK (ir g))]):=by
 refine aF.w 67 Tryz.func339 fun w g0 _=> ?_
 refine ah (ua _).k ?_
 refine aB ?_ ?_ <;> intro hb
 refine an (jf _).k ?_
 exact (by rw [pl_no (by omega)];rfl)
 refine ah (mH _ _).k ?_
 refine ah (aE _ _ _).k ?_
 refine aB ?_ ?_ <;> intro gK
 refine ah (aE _ _ _).k ?_
 refine aB ?_ ?_ <;> intro hg1
 refine aB ?_ ?_ <;> intro iz
 refine an (ef { g with A:=(cV g.Prog g.Pc).X }).k ?_
 exact (by rw [Wl (by omega) (by omega) (by omega)];rfl)
 refine cndT (by omega) ?_
 refine aB ?_ ?_ <;> intro tr
 refine cg ?_
 refine nz ?_
 refine an (ef { g with A:=(g.A + (cV g.Prog g.Pc).X).tmod 100 }).k ?_
 exact (by rw [Wm (by omega) (by omega) (by omega)];rfl)
 refine cndT (by omega) ?_
 refine aB ?_ ?_ <;> intro YO
 refine aB ?_ ?_ <;> intro AJ
 refine an (jf _).k ?_
 exact (by rw [R3 (by omega) (by omega) (by omega)];rfl)
 refine an (ef g).k ?_
 exact (by rw [Fw (by omega) (by omega) (by omega)];rfl)
 refine an (ef g).k ?_
 exact (by rw [Fw (by omega) (by omega) (by omega)];rfl)
 refine cndF (by omega) ?_
 refine cndF (by omega) ?_
 refine an (ef g).k ?_
 exact (by rw [Ma (by omega) (by omega)];rfl)
 refine an (ef g).k ?_
 exact (by rw [Ma (by omega) (by omega)];rfl)
theorem GZ (g:ax) [Q (aJ g)] [DE:Q (-9223372036854775808 ≤ g.Pc)]:aF Tryz.prog 391 [A (bK g)] (RG [.a (bK (ir g))]):=by
 refine aF.w 59 Tryz.func391 fun w g0 _=> ?_
 refine ah (nt _).k ?_
 refine aB ?_ ?_ <;> intro hb
 refine an (e8 _).k ?_
 exact (by rw [pl_no (by omega)];rfl)
 refine ah (kQ _ _).k ?_
 refine an (jI _).k ?_
 refine ah (aU _ _ _).k ?_
 refine aB ?_ ?_ <;> intro Fu
 exact (by rw [Ma (by omega) (by omega)];rfl)
 refine ah (aU _ _ _).k ?_
 refine aB ?_ ?_ <;> intro iz
 exact (by rw [Ma (by omega) (by omega)];rfl)
 refine aB ?_ ?_ <;> intro tr
 exact (by rw [Wl (by omega) (by omega) (by omega)];rfl)
 refine aB ?_ ?_ <;> intro AJ
 refine cg ?_
 refine nz ?_
 exact (by rw [Wm (by omega) (by omega) (by omega)];rfl)
 refine aB ?_ ?_ <;> intro gK
 refine aB ?_ ?_ <;> intro D0
 exact (by rw [R3 (by omega) (by omega) (by omega)];rfl)
 exact (by rw [Fw (by omega) (by omega) (by omega)];rfl)
 exact (by rw [Fw (by omega) (by omega) (by omega)];rfl)
theorem G0 (g:ax) (t:Int) (w:Int) [Q (aJ g)] [DE:Q (-9223372036854775808 ≤ g.Pc)]:aF Tryz.prog 446 [A (bK g),I t,I w] (RG [.a (bK (fC g t w).1), .c (.v (.bool (fC g t w).2))]):=by
 refine aF.w 51 Tryz.func446 fun w g0 _=> ?_
 refine ah (mH _ _).k ?_
 refine aB ?_ ?_ <;> intro hb
 refine cI [5] [(0,0),(1,0),(2,0),(3,1),(4,1),(5,1),(6,0)] ?_
 refine ah (Ep _).k ?_
 refine an (gm g (lR (cV g.Prog g.Pc).X)).k ?_
 exact (by rw [Mb (by omega)];rfl)
 refine aB ?_ ?_ <;> intro oe
 refine ah (lW _ _).k ?_
 refine aB ?_ ?_ <;> intro iz
 refine cI [5] [(0,0),(1,0),(2,0),(3,1),(4,1),(5,1),(6,0)] ?_
 refine ah (GM _).k ?_
 refine an (gm g (tj (cV g.Prog g.Pc).X)).k ?_
 exact (by rw [QA (by omega) ‹_›];rfl)
 refine aB ?_ ?_ <;> intro oe
 refine ah (lW _ _).k ?_
 refine aB ?_ ?_ <;> intro tr
 refine an (gm g sw).k ?_
 exact (by rw [Fx (by omega) ‹_›];rfl)
 refine aB ?_ ?_ <;> intro AJ
 refine an (qJ _).k ?_
 exact (by rw [Fy (by omega) ‹_›];rfl)
 refine an (ef _).k ?_
 exact (by rw [uO (by omega) (by exact .inl (by omega))];rfl)
 refine aB ?_ ?_ <;> intro D0
 refine an (qJ _).k ?_
 exact (by exfalso;omega)
 refine an (ef _).k ?_
 exact (by rw [uO (by omega) (by exact .inr ‹_›)];rfl)
 refine aB ?_ ?_ <;> intro oe
 refine ah (lW _ _).k ?_
 refine aB ?_ ?_ <;> intro Pz
 refine an (gm g sw).k ?_
 exact (by rw [Fx (by omega) ‹_›];rfl)
 refine aB ?_ ?_ <;> intro TD
 refine an (qJ _).k ?_
 exact (by rw [Fy (by omega) ‹_›];rfl)
 refine an (ef _).k ?_
 exact (by rw [uO (by omega) (by exact .inl (by omega))];rfl)
 refine aB ?_ ?_ <;> intro YT
 refine an (qJ _).k ?_
 exact (by exfalso;omega)
 refine an (ef _).k ?_
 exact (by rw [uO (by omega) (by exact .inl (by omega))];rfl)
theorem z_ (w:Int):aF Tryz.prog 384 [I w] (RV (.int .i64 (ov w))):=by
 refine aF.w 5 Tryz.func384 fun w g0 _=> ?_
 refine aB ?_ ?_ <;> intro hb
 exact ay (by simp_all [ov];done)
 exact ay (by simp_all [ov];done)
theorem xQ (g:ax) (w:Int) [Q (aJ g)]:aF Tryz.prog 385 [A (bK g),I w] (RG [.a (bK (ow g w))]):=by
 refine aF.w 19 Tryz.func385 fun w g0 _=> ?_
 refine aB ?_ ?_ <;> intro hb
 refine cI [9] [(0,0),(1,0),(2,0),(3,0),(4,0),(5,1),(6,0),(7,1),(8,1),(9,1)] ?_
 refine ah (kQ _ _).k ?_
 refine ah (GN _).k ?_
 refine an (gn g (tj (cV g.Prog g.Pc).X)).k ?_
 exact (by rw [Oi (by omega)];rfl)
 refine an (gn g sw).k ?_
 exact (by rw [L_ (by omega)];rfl)
theorem mJ (l:List ax) [Q (ki l)]:aF Tryz.prog 321 [L 15 (l.map bp)] (RL 15 (l.map bp)):=by
 refine aF.w 21 Tryz.func321 fun w g0 hM=> ?_
 have eW:=hM.1.map
 refine ck [0,2,3] [3] [3] (fun (i:Nat)=>[.set 4 (I i)]) (fun (i:Nat)=>[(3,⟨false,[.own (.sl 15 ((l.take i).map bp))]⟩)]) (fun (i:Nat)=>i ≤ l.length) (fun (i:Nat)=>l.length - i) (0) (bG _) ?_
 refine ⟨hda,fun i hyp N1 bq=> ?_⟩
 have hyp:i ≤ l.length:=hyp
 refine len ?_
 refine aB ?_ ?_ <;> intro hb
 ·refine s6 (fun y15 hy15 qy15 ly15=> ?_)
  skip
  refine an (jf _).k ?_
  refine lH ?_
  refine cg ?_
  refine bq _ _ _ ?_
  refine hY (i + 1) (by omega)
 ·refine bq _ _ _ ?_
  exact (by rw [fu (by omega)];rfl)
theorem gq (l:List ax) [Q (ki l)]:aF Tryz.prog 85 [L 15 (l.map bp)] (RL 15 (l.map bp)):=by
 refine aF.w 20 Tryz.func85 fun w g0 hM=> ?_
 have eW:=hM.1.map
 refine len ?_
 refine ck [2,3,7,8] [3] [3] (fun (i:Nat)=>[.set 9 (I i)]) (fun (i:Nat)=>[(3,⟨false,[.own (.sl 15 ((l.take i).map bp))]⟩)]) (fun (i:Nat)=>i ≤ l.length) (fun (i:Nat)=>l.length - i) (0) (bG _) ?_
 refine ⟨hda,fun i hyp N1 bq=> ?_⟩
 have hyp:i ≤ l.length:=hyp
 refine aB ?_ ?_ <;> intro hb
 ·refine s6 (fun y11 hy11 qy11 ly11=> ?_)
  skip
  refine an (e8 _).k ?_
  refine lH ?_
  refine cg ?_
  refine bq _ _ _ ?_
  refine hY (i + 1) (by omega)
 ·refine bq _ _ _ ?_
  exact (by rw [fu (by omega)];rfl)
theorem gr (b:aS) [Q (a_ b)]:aF Tryz.prog 242 [A (bH b)] (RG [.a (bH (b))]):=by
 refine aF.w 16 Tryz.func242 fun w g0 _=> ?_
 refine gp [9,13] [9] [1] (.quiet 0 0 (.quiet 1 0 (.quiet 3 0 (.quiet 4 0 (.quiet 7 0 (.quiet 8 0 (.quiet 10 1 (.quiet 11 1 (.fork (.alt 2 (.fork (.alt 5 (.fa 6 (.fa 9 (.quiet 12 0 (.fa 13 .done)))) (.alt 6 (.fa 5 (.fa 9 (.quiet 12 0 (.fa 13 .done)))) .stop))) (.alt 6 (.fa 2 (.fa 5 (.fa 9 (.quiet 12 0 (.fa 13 .done))))) .stop))))))))))) ?_
 repeat' first|exact True.intro|refine And.intro ?_ ?_|(intro _ _)|refine bu (lV _).k ?_|refine bu (mJ _).k ?_|refine cD ?_
 all_goals exact rfl
theorem cZ (b:aS) [Q (a_ b)]:aF Tryz.prog 388 [A (bH b)] (RG [.a (bH (b))]):=by
 refine aF.w 15 Tryz.func388 fun w g0 _=> ?_
 refine cI [12] [(0,0),(1,0),(3,0),(4,0),(6,0),(7,0),(9,0),(10,0),(2,1),(5,1),(8,1),(11,0),(12,1)] ?_
 refine bu (ko _).k ?_
 refine bu (gq _).k ?_
 refine bu (iC _).k ?_
 exact rfl
end
end Go.Proofs.YtdliggkohdnipaaGreat.T
