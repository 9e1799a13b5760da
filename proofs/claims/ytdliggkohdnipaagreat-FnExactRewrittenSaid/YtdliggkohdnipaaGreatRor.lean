import Derived.Test.YtdliggkohdnipaaGreatHqr
import Derived.Test.YtdliggkohdnipaaGreatTzor
set_option linter.unusedVariables false
set_option linter.unusedSimpArgs false
namespace Go.Proofs.YtdliggkohdnipaaGreat.T
open Go
section
variable {a:Act} {ops:Array Oper} {g0:Gh} {K:Kx} {n:Nat} {o:Oper} {x y:Operand} {P:Program} {rs:Rs} {w w' w0:World}
def I6 (e:List En) (b:Nat):List Nat→Prop→Prop
 | [],_=>False
 | x :: l,K=>lookW e x fun t=>mw t fun t=>match t with
  | .one (.ptr pl)=>(match pl with|⟨k,p,_⟩=>(match p with| []=>BR (Nat.beq k b) K (I6 e b l K)|_=>I6 e b l K))
  | _=>I6 e b l K
theorem MM {n:Nat} {e:List En} {rs:Rs} {b:Nat} {K:Prop}:∀ {l:List Nat},(∀ x ∈ l,x < n)→I6 e b l K→(∃ x ∈ l,∃ q,(aR n e rs).tmps[x]? = some (.one (.ptr ⟨b,[],q⟩)))∧K
 | [],_,h=>h.elim
 | x :: l,hn,h=>by
  have h:=fZ.1 (qC h)
  have go:I6 e b l K→(∃ x' ∈ x :: l,∃ q,(aR n e rs).tmps[x']? = some (.one (.ptr ⟨b,[],q⟩)))∧K:=fun h=>by
   obtain ⟨⟨x',hx',q,h2⟩,hk⟩:=MM (rs:=rs) (fun y hy=>hn y (List.mem_cons_of_mem _ hy)) h
   exact ⟨⟨x',List.mem_cons_of_mem _ hx',q,h2⟩,hk⟩
  generalize ht:look e x=t at h
  split at h
  rename_i pl
  obtain ⟨k,p,q⟩:=pl
  simp only at h
  split at h
  rcases fY.1 h with ⟨h1,h2⟩|⟨_,h2⟩
  have h1:=Nat.eq_of_beq_eq_true h1
  subst h1
  exact ⟨⟨x,List.mem_cons_self,q,by rw [zS (hn x List.mem_cons_self),ht]⟩,h2⟩
  exact go h2
  exact go h
  exact go h
def I7 (n:Nat):List Nat→Bool
 | []=>true
 | x :: l=>Nat.blt x n && I7 n l
theorem Ar {n:Nat}:∀ {l:List Nat},I7 n l=true→∀ x ∈ l,x < n
 | [],_,x,hx=>by cases hx
 | y :: l,h,x,hx=>by
  simp only [I7,Bool.and_eq_true] at h
  rcases List.mem_cons.1 hx with rfl|hx
  exact Nat.le_of_ble_eq_true h.1
  exact Ar h.2 x hx
def UA (P:Program) (n:Nat) (e:List En) (rs:Rs) (s:List Nat) (op:Op) (k:TS→Prop):Prop:=match op with
 | .fieldAddr t x f=>fT n e 0 x fun a=>(match a with
  | .one (.ptr pl)=>(match pl with|⟨b,p,q⟩=>Tw P t f fun off=>oneOf (q + off) small fun q=>k (.one (.ptr ⟨b,p,q⟩)))
  | _=>False)
 | .load t x=>fT n e 0 x fun a=>(match a with
  | .one (.ptr pl)=>(match pl with|⟨b,p,q⟩=>(match p with
   | []=>BR (I7 n s) (I6 e b s (match u9 P t with
    | some false=>kE rs b [] q fun m c=>BR m (Mk b [] q c fun c=>k (.one (.c c))) False
    | _=>False)) False
   | _=>False))
  | _=>False)
 | .move x=>BR (yL x) False (fT n e 0 x k)
 | .assign x=>BR (yL x) False (fT n e 0 x k)
 | .extract x i=>fT n e 0 x fun a=>(match a with
  | .lp ts=>qD ts i fun t=>k (.one t)
  | _=>False)
 | _=>False
section
variable {P:Program} {w0:World} {g0:Gh} {n:Nat} {e:List En} {rs:Rs} {o:Oper}
theorem Hi.extract {st:St} {s:List Nat} {x:Operand} {i:Nat} {ts:List TV} {t:TV} (ho:o.op= .extract x i) (hx:T.cy 0 st x=some (.lp ts)) (hi:ts[i]? = some t):Hi P w0 g0 s o st (.one t):=fun a w g hR=>by
 have this:=hR.cy hx
 generalize hv:a.eval x=v at this
 cases this with
 | lp ts us hs h=>
  have hlt:i < us.size:=by rw [hs];exact (List.getElem?_eq_some_iff.1 hi).1
  refine ⟨us[i],fun w' _=> ?_, .one _ _ (h i t _ hi (Array.getElem?_eq_getElem hlt))⟩
  simp [execOp,ho,hv,Instr.extract,Array.getElem?_eq_getElem hlt]
theorem UB {s:List Nat} {k:TS→Prop} (h:UA P n e rs s o.op k):∃ t,Hi P w0 g0 s o (aR n e rs) t∧k t:=by
 obtain ⟨dst,op,ty,pos,af,gd⟩:=o
 unfold UA at h
 simp only at h
 split at h
 obtain ⟨a,h1,h2⟩:=bR (rs:=rs) h
 split at h2
 rename_i pl
 obtain ⟨b,p,q⟩:=pl
 simp only at h2
 obtain ⟨off,h3,h4⟩:=JZ h2
 exact ⟨_, .field rfl h1 h3,mX h4⟩
 exact h2.elim
 obtain ⟨a,h1,h2⟩:=bR (rs:=rs) h
 split at h2
 rename_i pl
 obtain ⟨b,p,q⟩:=pl
 simp only at h2
 split at h2
 obtain ⟨h3,h4⟩:=bG h2
 obtain ⟨⟨x0,hx0,q',hq⟩,h5⟩:=MM (rs:=rs) (Ar h3) h4
 split at h5
 rename_i ht
 obtain ⟨m,c,h6,h7,h8⟩:=eU (n:=n) (e:=e) h5
 obtain ⟨rfl,h9⟩:=bG h8
 exact ⟨_, .load rfl h1 x0 hx0 hq ht h6 h7,zW h9⟩
 exact h5.elim
 exact h2.elim
 exact h2.elim
 rename_i x
 obtain ⟨h1,h2⟩:=pE h
 obtain ⟨t,h3,h4⟩:=bR (rs:=rs) h2
 exact ⟨t, .pure (.move 0 rfl h3) rfl,h4⟩
 rename_i x
 obtain ⟨h1,h2⟩:=pE h
 obtain ⟨t,h3,h4⟩:=bR (rs:=rs) h2
 exact ⟨t, .pure (.assign 0 rfl h3) rfl,h4⟩
 obtain ⟨a,h1,h2⟩:=bR (rs:=rs) h
 split at h2
 obtain ⟨t,h3,h4⟩:=hJ h2
 exact ⟨_, .extract rfl h1 h3,h4⟩
 exact h2.elim
 exact h.elim
end
def Qr (e:List En) (rs:Rs) (ks:List Nat):List Nat→Prop
 | []=>True
 | x :: l=>lookW e x fun t=>mw t fun t=>match t with
  | .one (.ptr pl)=>(match pl with|⟨a,p,q⟩=>BR (C2 a ks) False (kE rs a p q fun m _=>BR m (Qr e rs ks l) False))
  | _=>False
theorem Fi {n:Nat} {e:List En} {rs:Rs} {ks:List Nat}:∀ {l:List Nat},(∀ x ∈ l,x < n)→Qr e rs ks l→yE (aR n e rs) ks l
 | [],_,_=> .nil
 | x :: l,hn,h=>by
  have h:=fZ.1 (qC h)
  generalize ht:look e x=t at h
  split at h
  rename_i pl
  obtain ⟨a,p,q⟩:=pl
  obtain ⟨h1,h2⟩:=pE h
  obtain ⟨m,c,h3,h4,h5⟩:=eU (n:=n) (e:=e) h2
  obtain ⟨rfl,h6⟩:=bG h5
  exact .cons (by rw [zS (hn x List.mem_cons_self),ht]) h3 h4 (by rw [← kV];exact h1) (Fi (fun y hy=>hn y (List.mem_cons_of_mem _ hy)) h6)
  exact h.elim
def MN (ks:List Nat):Rs→(Rs→Prop)→Prop
 | [],k=>k []
 | (a,⟨m,row⟩) :: l,k=>BR (C2 a ks) (MN ks l fun l=>k ((a,⟨m,row⟩) :: l)) (MN ks l k)
theorem As {ks:List Nat}:∀ {rs:Rs} {k:Rs→Prop},MN ks rs k→k (rs.filter fun x=>ks.contains x.1)
 | [],k,h=>h
 | (a,⟨m,row⟩) :: l,k,h=>by
  rcases fY.1 h with ⟨h1,h2⟩|⟨h1,h2⟩
  have Ie:ks.contains a=true:=by rw [← kV];exact h1
  have:=As (rs:=l) h2
  rw [List.filter_cons,if_pos Ie]
  exact this
  have Ie:ks.contains a=false:=by rw [← kV];exact h1
  have:=As (rs:=l) h2
  rw [List.filter_cons,if_neg (by rw [Ie];decide)]
  exact this
section
variable {P:Program} {w0:World} {g0:Gh} {st:St}
theorem OX {args:Array Operand} {nL:Array TypeId} (ho:o.op= .call { callee:= .builtin .copy,args:=args,argTypes:=nL }) {n:Next} (h:(execOp a.eval o).run P w= .ok n w'):∃ v,n= .value v:=by
 simp [execOp,ho,resolve,invoke,builtin] at h
 generalize Sem.run P (Builtin.copy_ nL o.type (Array.map a.eval args)) w=r at h
 cases r with
 | ok v w1=>
  simp [Result.andThen] at h
  exact ⟨v,h.1.symm⟩
 | halt x w1=>simp [Result.andThen] at h
theorem TA.opB' {ops:Array Oper} {ws bs s:List Nat} {i:Nat} {l u:Ord} {Q:St→Prop} {o:Oper} {tl:List Oper} (ks:List Nat) (hin:ws.contains i=true∧bs.contains i=true) (sI:ops.toList.drop i=o :: tl) (hg:yes ops st o)
  (hv:∀ {a:Act} {w:World} {n:Next} {w':World},(execOp a.eval o).run P w= .ok n w'→(∃ v,n= .value v) ∨ n= .skip)
  (hps:yE st ks s)
  (hf:∀ w0 g0,fX P w0 g0 o (st.only ks) (fun _=>True))
  (h:∀ K:St→Prop,(∀ bD,TT P w0 g0 ops ws bs s l bD Q→K bD)→fX P w0 g0 o st K) (hu:TA P w0 g0 ops ws bs s u st Q):TA P w0 g0 ops ws bs s (.alt i l u) st Q:=TA.alt (fun Q' K hK a w g hR=>by
 unfold Mg
 rw [if_pos hin.1,if_pos hin.2]
 unfold Sw
 simp only [pJ sI,ql hg hR,if_true]
 have hA:=h _ (fun _ h=>h) a w g hR K (fun _ _ _=>False) fun bD a' w' g' hq hU=>hK bD a' w' g' hq hU
 have hB:=hf w (g.frame ks w.heap.size) a w _ (hR.frame ks) (fun _ w'=>∃ g',lF w (g.frame ks w.heap.size) w' g') (fun _ _ _=>False) fun bD a' w' g' _ hU=>⟨g',hU.ks⟩
 unfold Oper.wp at hA hB
 generalize hr:(execOp a.eval o).run P w=r at hA hB
 cases r with
 | halt x w'=>cases x <;> exact hA.elim
 | ok n w'=>
  rcases hv hr with ⟨v,rfl⟩|rfl
  all_goals
   have hA':=hA
   obtain ⟨g',hKp⟩:∃ g',lF w (g.frame ks w.heap.size) w' g':=hB
   refine ⟨⟨hKp.size,fun x hx A hAd hlt=> ?_⟩,hA'⟩
   obtain ⟨pl,c,hps,Ch,hpm,hpk⟩:=hps.get x hx
   have h2:=hR.tm x _ hps
   rw [hAd] at h2
   cases h2 with
   | one _ _ h2=>
    cases h2 with
    | ptr _=>
     have h3:=((hR.cellAt Ch).2.2.2 hpm).1
     refine (hKp.block _ hlt (.inl ?_)).1
     show (g.frame ks w.heap.size).o (g.ad pl.k pl.p).1= .ro
     have h4:(nA pl.k pl.p).gu = some pl.k:=by unfold nA;split <;> rfl
     simp only [Gh.frame,h3,h4,hpk,Bool.false_eq_true,if_false]
     exact if_pos hlt) hu
end
section
variable {P:Program} {w0:World} {g0:Gh} {st:St}
theorem rq.of' {o:Oper} {Q:St→Prop} (hv:∀ {a:Act} {w:World} {n:Next} {w':World},(execOp a.eval o).run P w= .ok n w'→∃ v,n= .value v) (hf:∀ w0 g0,fX P w0 g0 o (st.only []) (fun _=>True)) (h:fX P w0 g0 o st Q):rq P w0 g0 o st Q:=fun a w g hR K hK=>by
 have hA:=h a w g hR K (fun _ _ _=>False) hK
 have hB:=hf w (g.frame [] w.heap.size) a w _ (hR.frame []) (fun _ w'=>∃ g',lF w (g.frame [] w.heap.size) w' g') (fun _ _ _=>False) fun bD a' w' g' _ hU=>⟨g',hU.ks⟩
 unfold Oper.wp at hA hB
 generalize hr:(execOp a.eval o).run P w=r at hA hB
 cases r with
 | halt x w'=>cases x <;> exact hA.elim
 | ok n w'=>
  obtain ⟨v,rfl⟩:=hv hr
  obtain ⟨g',JQ⟩:∃ g',lF w (g.frame [] w.heap.size) w' g':=hB
  refine ⟨⟨JQ.os,JQ.tape,JQ.output,JQ.size,fun b hb=>(JQ.block b hb (.inl ?_)).1⟩,hA⟩
  simp only [Gh.frame]
  split
  simp [hb]
  exact if_pos hb
theorem xe {m:Sem Value} {n:Next} (h:(m >>= fun x=>pure (Next.value x):Sem Next).run P w= .ok n w'):∃ v,n= .value v:=by
 simp only [Sem.run_bind] at h
 generalize Sem.run P m w=r at h
 cases r with
 | ok v w1=>
  simp [Result.andThen] at h
  exact ⟨v,h.1.symm⟩
 | halt x w1=>simp [Result.andThen] at h
theorem OY {t:TypeId} (ho:o.op= .store t x y) {n:Next} (h:(execOp a.eval o).run P w= .ok n w'):n= .skip:=by
 simp [execOp,ho] at h
 generalize Sem.run P (Instr.storeAt t (a.eval x) (a.eval y)) w=r at h
 cases r with
 | ok v w1=>
  simp [Result.andThen] at h
  exact h.1.symm
 | halt x w1=>simp [Result.andThen] at h
def makes:Op→Bool
 | .alloc _=>true
 | .box _ _=>true
 | .makeSlice _ _ _=>true
 | .build _ _=>true
 | _=>false
theorem MO (ho:makes o.op=true) {n:Next} (h:(execOp a.eval o).run P w= .ok n w'):∃ v,n= .value v:=by
 obtain ⟨dst,op,ty,pos,af,gd⟩:=o
 simp only at ho
 unfold makes at ho
 split at ho
 exact xe h
 exact xe h
 exact xe h
 exact xe h
 cases ho
end
def Ord.Wb:Ord→Bool
 | .alt _ _ _=>true
 | .stop=>true
 | _=>false
def Ord.YB:Ord→Bool
 | .alt _ _ _=>true
 | _=>false
def OZ (P:Program) (n:Nat) (ws s:List Nat) (i b:Nat) (o:Oper) (e:List En) (rs:Rs) (K:Kn):Prop:=BR (C2 i ws) False (match b with
 | 0=>C1 P n e rs o.op fun t=>lB o.dst t e rs K
 | _=>UA P n e rs s o.op fun t=>lB o.dst t e rs K)
def DT (n:Nat) (e:List En) (x y:Operand) (k:List Nat→Prop):Prop:=fT n e 0 x fun a=>(match a with
 | .one (.c (.ref pl))=>(match pl with|⟨b,_,_⟩=>(match y with
  | .const _=>k [b]
  | _=>fT n e 0 y fun c=>(match c with
   | .one (.c (.ref pl))=>(match pl with|⟨b2,_,_⟩=>k [b,b2])
   | .one (.cut pl _ _ _)=>(match pl with|⟨b2,_,_⟩=>k [b,b2])
   | _=>k [b])))
 | .one (.cut pl _ _ _)=>(match pl with|⟨b,_,_⟩=>fT n e 0 y fun c=>(match c with
   | .one (.c (.ref pl))=>(match pl with|⟨b2,_,_⟩=>k [b,b2])
   | .one (.cut pl _ _ _)=>(match pl with|⟨b2,_,_⟩=>k [b,b2])
   | _=>k [b]))
 | _=>False)
theorem Fj {e:List En} {k:List Nat→Prop} (h:DT n e x y k):∃ ks,k ks:=by
 unfold DT at h
 obtain ⟨a,ha,h⟩:=bR (rs:=[]) h
 clear ha
 split at h
 rename_i pl
 obtain ⟨b,p,q⟩:=pl
 simp only at h
 split at h
 exact ⟨_,h⟩
 obtain ⟨c,hc,h⟩:=bR (rs:=[]) h
 clear hc
 split at h
 rename_i pl
 obtain ⟨b2,p,q⟩:=pl
 exact ⟨_,h⟩
 rename_i pl lo hi s
 obtain ⟨b2,p,q⟩:=pl
 exact ⟨_,h⟩
 exact ⟨_,h⟩
 rename_i pl z lo hi
 obtain ⟨b,p,q⟩:=pl
 simp only at h
 obtain ⟨c,hc,h⟩:=bR (rs:=[]) h
 clear hc
 split at h
 rename_i pl
 obtain ⟨b2,p,q⟩:=pl
 exact ⟨_,h⟩
 rename_i pl lo hi s
 obtain ⟨b2,p,q⟩:=pl
 exact ⟨_,h⟩
 exact ⟨_,h⟩
 exact h.elim
def appS (P:Program) (w0:World) (g0:Gh) (n:Nat) (s:List Nat) (o:Oper) (e:List En) (rs:Rs) (K:Kn):Prop:=match o.op with
 | .call c=>(match c with
  | ⟨cl,az,_⟩=>(match cl with
   | .builtin b=>(match b with
    | .append=>(match az with|⟨az⟩=>(match az with
     | [x,y]=>DT n e x y fun ks=>BR (I7 n s) (Qr e rs ks s∧(∀ w0 g0,MN ks rs fun rs=>pF false P w0 g0 n o e rs fun _ _=>True)∧pF false P w0 g0 n o e rs K) False
     | _=>False))
    | .copy=>(match az with|⟨az⟩=>(match az with
     | [x,y]=>DT n e x y fun ks=>BR (I7 n s) (Qr e rs ks s∧(∀ w0 g0,MN ks rs fun rs=>pF false P w0 g0 n o e rs fun _ _=>True)∧pF false P w0 g0 n o e rs K) False
     | _=>False))
    | _=>False)
   | _=>False))
 | .store _ _ _=>(match s with
  | []=>(∀ w0 g0,pF false P w0 g0 n o e rs fun _ _=>True)∧pF false P w0 g0 n o e rs K
  | _=>False)
 | _=>False
def tAlt (P:Program) (w0:World) (g0:Gh) (n:Nat) (ws bs s:List Nat) (i:Nat) (o:Oper) (e:List En) (rs:Rs) (K:Kn):Prop:=BR (C2 i ws) (BR (C2 i bs) (appS P w0 g0 n s o e rs K) (pF false P w0 g0 n o e rs K)) (BR (makes o.op) ((∀ w1 g1,pF false P w1 g1 n o e [] fun _ _=>True)∧pF false P w0 g0 n o e rs K) (pF true P w0 g0 n o e rs K))
def wT (P:Program) (w0:World) (g0:Gh) (n:Nat) (ops:List Oper) (ws bs s:List Nat) (t:Ord):List En→Rs→Kn→Prop:=
 @Ord.rec (fun _=>List En→Rs→Kn→Prop)
  (fun e rs K=>K e rs)
  (fun i b t ih e rs K=>BR t.Wb False (qD ops i fun o=>o5 n ops o.guard e (fun e=>OZ P n ws s i b o e rs fun e rs=>ih e rs K) (fun _=>False)))
  (fun t ih e rs K=>BR t.YB (ih e rs K) False)
  (fun i t u iht ihu e rs K=>BR (t.Wb || !u.Wb) False ((qD ops i fun o=>o5 n ops o.guard e (fun e=>tAlt P w0 g0 n ws bs s i o e rs fun e rs=>iht e rs K) (fun _=>False))∧ihu e rs K))
  (fun _ _ _=>True) t
theorem vK {P:Program} {w0:World} {g0:Gh} {n:Nat} {ops:Array Oper} {ws bs s:List Nat}:∀ {t:Ord} {e:List En} {rs:Rs} {K:Kn},wT P w0 g0 n ops.toList ws bs s t e rs K→
  (t.Wb=false→TT P w0 g0 ops ws bs s t (aR n e rs) (Lg n K))∧(t.Wb=true→TA P w0 g0 ops ws bs s t (aR n e rs) (Lg n K))
 | .done,e,rs,K,h=>⟨fun _=> .nil (.mk h),fun h=>Bool.noConfusion h⟩
 | .stop,e,rs,K,h=>⟨fun h=>Bool.noConfusion h,fun _=>TA.stop⟩
 | .fork t,e,rs,K,h=>by
   refine ⟨fun _=> ?_,fun h=>Bool.noConfusion h⟩
   have h:BR t.YB (wT P w0 g0 n ops.toList ws bs s t e rs K) False:=h
   obtain ⟨h1,h2⟩:=bG h
   cases t with
   | alt i t u=>exact .fork ((vK h2).2 rfl) (by simp [Ord.alts])
   | _=>cases h1
 | .quiet i b t,e,rs,K,h=>by
   refine ⟨fun _=> ?_,fun h=>Bool.noConfusion h⟩
   have h:BR t.Wb False (qD ops.toList i fun o=>o5 n ops.toList o.guard e (fun e=>OZ P n ws s i b o e rs fun e rs=>wT P w0 g0 n ops.toList ws bs s t e rs K) (fun _=>False)):=h
   obtain ⟨h1,h2⟩:=pE h
   obtain ⟨o,h0,h3⟩:=hJ h2
   have sI:=vq h0
   obtain ⟨e',he,h4⟩:=sY (rs:=rs) h3
   rw [← he]
   rcases h4 with ⟨h5,h6⟩|⟨_,h6⟩
   ·unfold OZ at h6
    obtain ⟨h7,h8⟩:=pE h6
    have Xk:ws.contains i=false:=by rw [← kV];exact h7
    cases b with
    | zero=>
     obtain ⟨t',h9,kU⟩:=DO (w0:=w0) (g0:=g0) h8
     obtain ⟨e2,IK,hs,hk⟩:=fR (n:=n) kU
     exact .S7 Xk sI h5 h9 hs ((vK hk).1 h1)
    | succ b=>
     obtain ⟨t',h9,kU⟩:=UB (w0:=w0) (g0:=g0) h8
     obtain ⟨e2,IK,hs,hk⟩:=fR (n:=n) kU
     exact .valS Xk sI h5 h9 hs ((vK hk).1 h1)
   ·exact h6.elim
 | .alt i t u,e,rs,K,h=>by
   refine ⟨fun h=>Bool.noConfusion h,fun _=> ?_⟩
   have h:BR (t.Wb || !u.Wb) False ((qD ops.toList i fun o=>o5 n ops.toList o.guard e (fun e=>tAlt P w0 g0 n ws bs s i o e rs fun e rs=>wT P w0 g0 n ops.toList ws bs s t e rs K) (fun _=>False))∧wT P w0 g0 n ops.toList ws bs s u e rs K):=h
   obtain ⟨h1,h2,hu⟩:=pE h
   simp only [Bool.or_eq_false_iff,Bool.not_eq_false'] at h1
   have hu:=(vK hu).2 h1.2
   obtain ⟨o,h0,h3⟩:=hJ h2
   have sI:=vq h0
   obtain ⟨e',he,h4⟩:=sY (rs:=rs) h3
   rw [← he] at hu ⊢
   rcases h4 with ⟨h5,h6⟩|⟨_,h6⟩
   ·unfold tAlt at h6
    rcases fY.1 h6 with ⟨h7,h8⟩|⟨h7,h8⟩
    ·have Xk:ws.contains i=true:=by rw [← kV];exact h7
     rcases fY.1 h8 with ⟨h9,kU⟩|⟨h9,kU⟩
     ·have h9':bs.contains i=true:=by rw [← kV];exact h9
      unfold appS at kU
      split at kU
      ·rename_i c hc
       obtain ⟨cl,⟨az⟩,ts⟩:=c
       simp only at kU
       split at kU
       ·split at kU
        ·split at kU
         ·obtain ⟨ks,oW⟩:=Fj kU
          obtain ⟨h12,pL,vc,sW⟩:=bG oW
          have hk:fX P w0 g0 o (aR n e' rs) _:=jq sW
          refine .opB' ks ⟨Xk,h9'⟩ sI h5 (fun h=> .inl (JT hc h)) (Fi (Ar h12) pL) (fun w1 g1=> ?_) (fun K2 Mh=>hk.mono fun st ⟨e2,IK,hs,hk⟩=>Mh st (by subst hs;exact (vK hk).1 h1.1)) hu
          have II:=As (vc w1 g1)
          have LJ:fX P w1 g1 o (aR n e' (rs.filter fun x=>ks.contains x.1)) _:=jq II
          exact LJ.mono fun _ _=>trivial
         ·exact kU.elim
        ·split at kU
         ·obtain ⟨ks,oW⟩:=Fj kU
          obtain ⟨h12,pL,vc,sW⟩:=bG oW
          have hk:fX P w0 g0 o (aR n e' rs) _:=jq sW
          refine .opB' ks ⟨Xk,h9'⟩ sI h5 (fun h=> .inl (OX hc h)) (Fi (Ar h12) pL) (fun w1 g1=> ?_) (fun K2 Mh=>hk.mono fun st ⟨e2,IK,hs,hk⟩=>Mh st (by subst hs;exact (vK hk).1 h1.1)) hu
          have II:=As (vc w1 g1)
          have LJ:fX P w1 g1 o (aR n e' (rs.filter fun x=>ks.contains x.1)) _:=jq II
          exact LJ.mono fun _ _=>trivial
         ·exact kU.elim
        ·exact kU.elim
       ·exact kU.elim
      ·rename_i hst
       split at kU
       ·obtain ⟨oW,h12⟩:=kU
        have hk:fX P w0 g0 o (aR n e' rs) _:=jq h12
        refine .opB' (rs.map Prod.fst) ⟨Xk,h9'⟩ sI h5 (fun h=> .inr (OY hst h)) .nil (fun w1 g1=> ?_) (fun K2 Mh=>hk.mono fun st ⟨e2,IK,hs,hk⟩=>Mh st (by subst hs;exact (vK hk).1 h1.1)) hu
        have LJ:fX P w1 g1 o (aR n e' rs) _:=jq (oW w1 g1)
        have RE:(aR n e' rs).only (rs.map Prod.fst)=aR n e' rs:=by
         simp only [St.only,aR,St.mk.injEq,true_and]
         refine List.filter_eq_self.2 fun x hx=> ?_
         exact List.contains_iff_mem.2 (List.mem_map.2 ⟨x,hx,rfl⟩)
        rw [RE]
        exact LJ.mono fun _ _=>trivial
       ·exact kU.elim
      ·exact kU.elim
     ·have h9':bs.contains i=false:=by rw [← kV];exact h9
      have hk:fX P w0 g0 o (aR n e' rs) _:=jq kU
      exact .opK ⟨Xk,h9'⟩ sI h5 (fun K2 Mh=>hk.mono fun st ⟨e2,IK,hs,hk⟩=>Mh st (by subst hs;exact (vK hk).1 h1.1)) hu
    ·have Xk:ws.contains i=false:=by rw [← kV];exact h7
     have hk:rq P w0 g0 o (aR n e' rs) (Lg n fun e rs=>wT P w0 g0 n ops.toList ws bs s t e rs K):=by
      rcases fY.1 h8 with ⟨h9,kU,oW⟩|⟨_,h9⟩
      ·have h12:fX P w0 g0 o (aR n e' rs) _:=jq oW
       refine rq.of' (MO h9) (fun w1 g1=> ?_) h12
       have pL:fX P w1 g1 o (aR n e' []) _:=jq (kU w1 g1)
       have vc:(aR n e' rs).only []=aR n e' []:=by simp [St.only,aR]
       rw [vc]
       exact pL.mono fun _ _=>trivial
      ·exact jq (m:=true) h9
     exact .opM Xk sI h5 (fun K2 Mh=>hk.mono fun st ⟨e2,IK,hs,hk⟩=>Mh st (by subst hs;exact (vK hk).1 h1.1)) hu
   ·exact h6.elim
theorem fW {e:List En} (ws bs s:List Nat) (t:Ord) (h:wT P w0 g0 n ops.toList ws bs s t e rs (K .normal)) (ht:t.Wb=false:=by exact rfl) (hB:(Region.noSelect ops && t.ok ops ws bs s ops.size (Array.replicate ops.size false))=true:=by decide +kernel) (hm:P.follows .mixedOrders=true:=by exact rfl):
  RM P w0 g0 n ops e rs K:=⟨fun i=>TC.P9 ws bs s t hm hB (by
 have h1:=(vK h).1 ht
 exact fun fuel listed hs hc he a w g hR Q' hQ=>h1 fuel listed hs hc he a w g hR Q' fun bD a' w' g' ⟨e',fq,hs,hk⟩ hU=>hQ bD a' w' g' ⟨e',fq,hs,hk⟩ hU)⟩
theorem CF {e:List En} (ws bs s:List Nat) (t:Ord) (js vs xs:List Nat) (xM:List En) (rts:Rs) 
  (h:IR n e js fun ke=>w_ xs rs fun kr=>wT P w0 g0 n ops.toList ws bs s t e rs (fun e' fq=>E2 e' fq vs (xM ++ ke) (rts ++ kr))∧Hl xM ke fun E=>Hl rts kr fun R=>K .normal E R)
  (ht:t.Wb=false:=by exact rfl) (hB:(Region.noSelect ops && t.ok ops ws bs s ops.size (Array.replicate ops.size false))=true:=by decide +kernel) (hm:P.follows .mixedOrders=true:=by exact rfl):RM P w0 g0 n ops e rs K:=by
 obtain ⟨ke,h⟩:=vr h
 obtain ⟨kr,h1,h2⟩:=qH h
 have h2:=pN (pN h2)
 refine ⟨fun i=>TC.P9 ws bs s t hm hB ?_⟩
 have h3:=(vK h1).1 ht
 refine fun fuel listed hs hc he a w g hR Q' hQ=>h3 fuel listed hs hc he a w g hR Q' fun bD a' w' g' ⟨e',fq,hs,hk⟩ hU=> ?_
 subst hs
 obtain ⟨g2,Cj⟩:=hk.can hU
 exact hQ _ a' w' g2 ⟨_,_,rfl,h2⟩ Cj
end
end Go.Proofs.YtdliggkohdnipaaGreat.T
