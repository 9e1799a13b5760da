import Derived.Test.YtdliggkohdnipaaGreatRgq
set_option linter.unusedVariables false
set_option linter.unusedSimpArgs false
namespace Go.Proofs.YtdliggkohdnipaaGreat.T
open Go
section
variable {ops:Array Oper} {g0:Gh} {K:Kn} {l:List (Nat×Nat)} {bs s ws:List Nat} {rest tl:List Oper} {i n:Nat} {o:Oper} {P:Program} {rs:Rs} {bJ:St} {t:TS} {w0:World}
theorem Km {e:List En} (h:(aZ n e rs).tmps[i]? = some t):aZ n (.set i t :: e) rs=aZ n e rs:=by
 rw [← F8]
 simp only [St.put]
 congr 1
 apply List.ext_getElem?
 intro j
 rw [nN]
 split
 rename_i hij
 subst hij
 show _=(aZ n e rs).tmps[i]?
 rw [h]
 split
 rfl
 rename_i hl
 rw [List.getElem?_eq_none (by omega)] at h
 cases h
 rfl
def qX (n:Nat) (ops:List Oper) (gd:Option (Nat×Bool)) (e:List En) (yes no:List En→Prop):Prop:=match gd with
 | none=>yes e
 | some jw=>(match jw with
  | (j,want)=>sg ops j fun oj=>(match oj.dst with
   | some d=>P5 n e d fun t=>(match t with
    | .mj ts=>(match ts with| []=>no e|_=>False)
    | .one (.c (.ro (.v (.bool b))))=>BR b (BR want (yes (.set d (B true) :: e)) (no (.set d (B true) :: e))) (BR want (no (.set d (B false) :: e)) (yes (.set d (B false) :: e)))
    | _=>False)
   | none=>False))
theorem uL {e:List En} {Y N:List En→Prop} (h:qX n ops.toList o.guard e Y N):
  ∃ e',aZ n e' rs=aZ n e rs∧((yes ops (aZ n e' rs) o∧Y e') ∨ (NB ops (aZ n e' rs) o∧N e')):=by
 unfold qX at h
 split at h
 rename_i hg
 exact ⟨e,rfl, .inl ⟨U1 hg,h⟩⟩
 rename_i jw hg
 obtain ⟨j,want⟩:=jw
 simp only at h
 obtain ⟨oj,h1,h2⟩:=iK h
 have JL:ops[j]? = some oj:=by simpa using h1
 split at h2
 rename_i d hd
 obtain ⟨t,h3,h4⟩:=yE (rs:=rs) h2
 have qU:∀ e',aZ n e' rs=aZ n e rs→guardOf ops (aZ n e' rs) j=some t:=fun e' he=>by
  rw [he]
  simp [guardOf,JL,hd,h3]
 split at h4
 split at h4
 exact ⟨e,rfl, .inr ⟨nope_u hg (qU e rfl),h4⟩⟩
 exact h4.elim
 have hs:=Km h3
 rcases gM.1 h4 with ⟨rfl,h5⟩|⟨rfl,h5⟩
 rcases gM.1 h5 with ⟨rfl,h6⟩|⟨rfl,h6⟩
 exact ⟨_,hs, .inl ⟨Nw hg (qU _ hs) rfl,h6⟩⟩
 exact ⟨_,hs, .inr ⟨U3 hg (qU _ hs) rfl,h6⟩⟩
 rcases gM.1 h5 with ⟨rfl,h6⟩|⟨rfl,h6⟩
 exact ⟨_,hs, .inr ⟨U3 hg (qU _ hs) rfl,h6⟩⟩
 exact ⟨_,hs, .inl ⟨Nw hg (qU _ hs) rfl,h6⟩⟩
 exact h4.elim
 exact h2.elim
section
variable {P:Program} {w0:World} {g0:Gh} {st:St}
theorem TL.yes {Q:St→Prop} (hg:yes ops st o) (h:gJ P w0 g0 o st (fun bJ=>TL P w0 g0 ops rest bJ Q)):TL P w0 g0 ops (o :: rest) st Q:=fun a w g hR Q' hQ=>wpList_step fun K hK=>by
 rw [if_pos (tT hg hR)]
 exact h a w g hR K Q' fun bJ a' w' g' q r=>hK _ _ (q a' w' g' r Q' hQ)
theorem gJ.mono {Q Q':St→Prop} (h:gJ P w0 g0 o st Q) (hq:∀ st,Q st→Q' st):gJ P w0 g0 o st Q':=fun a w g hR K Q2 hK=>h a w g hR K Q2 fun bJ a' w' g' q r=>hK bJ a' w' g' (hq _ q) r
theorem s3.mono {Q Q':St→Prop} (h:s3 P w0 g0 o st Q) (hq:∀ st,Q st→Q' st):s3 P w0 g0 o st Q':=fun a w g hR K hK=>h a w g hR K fun bJ a' w' g' q r=>hK bJ a' w' g' (hq _ q) r
end
def wL (P:Program) (w0:World) (g0:Gh) (n:Nat) (ops l:List Oper):List En→Rs→Kn→Prop:=
 @List.rec Oper (fun _=>List En→Rs→Kn→Prop) (fun e rs K=>K e rs)
  (fun o _ ih e rs K=>qX n ops o.guard e (fun e=>rp false P w0 g0 n o e rs fun e rs=>ih e rs K) (fun e=>mY o.dst U e rs fun e rs=>ih e rs K)) l
theorem Yz {ops:List Oper} {l:List Oper} {e:List En} (h:wL P w0 g0 n ops (o :: l) e rs K):qX n ops o.guard e (fun e=>rp false P w0 g0 n o e rs fun e rs=>wL P w0 g0 n ops l e rs K) (fun e=>mY o.dst U e rs fun e rs=>wL P w0 g0 n ops l e rs K):=h
theorem VY {P:Program} {w0:World} {g0:Gh} {n:Nat} {ops:Array Oper}:∀ {l:List Oper} {e:List En} {rs:Rs} {K:Kn},wL P w0 g0 n ops.toList l e rs K→TL P w0 g0 ops l (aZ n e rs) (Lg n K)
 | [],e,rs,K,h=> .nil (.mk h)
 | o :: l,e,rs,K,h=>by
  obtain ⟨e',he,h1⟩:=uL (rs:=rs) (Yz h)
  rw [← he]
  rcases h1 with ⟨h2,h3⟩|⟨h2,h3⟩
  refine .yes h2 ?_
  have h4:gJ P w0 g0 o (aZ n e' rs) _:=j_ h3
  exact h4.mono fun st ⟨e2,Kk,hs,hk⟩=>by subst hs;exact VY hk
  obtain ⟨e2,Kk,hs,hk⟩:=gF (n:=n) h3
  exact .skip h2 hs (VY hk)
inductive CallQ (P:Program) (w0:World) (g0:Gh) (e:List En) (rs:Rs) (f:FuncId) (ts:List TS) (dst:Option Nat) (K:Kn):Prop
 | mk {pts:List TS} {t:TS} {x:Value} (hc:Ao P w0 g0 f pts (RP t)) (hs:vt rs ts fun l=>l=pts) (hp:qw t=some x) (hf:ep P f) (hk:mY dst t e rs K)
theorem iL {e:List En} {f:FuncId} {ts pts:List TS} {d:Nat} {x:Value} (hc:Ao P w0 g0 f pts (RP t)) (hk:K (.set d t :: e) rs) 
  (hs:vt rs ts fun l=>l=pts:=by (repeat first|exact rfl|refine fi.mk (by first|exact WD.w|assumption) ?_|refine Ax ‹_› ?_);done)
  (hp:qw t=some x:=by exact rfl) (hf:ep P f:=by exact .mk rfl rfl rfl):CallQ P w0 g0 e rs f ts (some d) K:= .mk hc hs hp hf hk
def VZ (P:Program) (w0:World) (g0:Gh) (n:Nat) (o:Oper) (e:List En) (rs:Rs) (K:Kn):Prop:=match o with
 | ⟨dst,op,_,_,_,_⟩=>(match op with
  | .call c=>(match c with
   | ⟨cl,as,ts⟩=>(match cl with
    | .value cx=>gH n e 0 cx fun t=>(match t with
     | .fn f l=>(match l with
      | []=>(match as with|⟨as⟩=>J8 n e as fun ts=>CallQ P w0 g0 e rs f ts dst K)
      | _=>False)
     | _=>False)
    | _=>El P n e rs (.call ⟨cl,as,ts⟩) fun t=>mY dst t e rs K))
  | op=>El P n e rs op fun t=>mY dst t e rs K)
def wQ (P:Program) (w0:World) (g0:Gh) (n:Nat) (ops l:List Oper):List En→Rs→Kn→Prop:=
 @List.rec Oper (fun _=>List En→Rs→Kn→Prop) (fun e rs K=>K e rs)
  (fun o _ ih e rs K=>qX n ops o.guard e (fun e=>VZ P w0 g0 n o e rs fun e rs=>ih e rs K) (fun e=>mY o.dst U e rs fun e rs=>ih e rs K)) l
theorem YA {ops:List Oper} {l:List Oper} {e:List En} (h:wQ P w0 g0 n ops (o :: l) e rs K):qX n ops o.guard e (fun e=>VZ P w0 g0 n o e rs fun e rs=>wQ P w0 g0 n ops l e rs K) (fun e=>mY o.dst U e rs fun e rs=>wQ P w0 g0 n ops l e rs K):=h
section
variable {P:Program} {w0:World} {g0:Gh} {st:St}
theorem TQ.yes {Q:St→Prop} (hg:yes ops st o) (h:eA P w0 g0 o st t) (hp:st.put o.dst t=bJ) (hq:TQ P w0 g0 ops rest bJ Q):TQ P w0 g0 ops (o :: rest) st Q:=by
 rcases hg with hg|⟨j,want,b,hg,hb,he⟩
 exact TQ.U0 hg h hp hq
 exact TQ.guardE hg hb he h hp hq
end
theorem RQ {P:Program} {w0:World} {g0:Gh} {n:Nat} {ops:Array Oper}:∀ {l:List Oper} {e:List En} {rs:Rs} {K:Kn},wQ P w0 g0 n ops.toList l e rs K→TQ P w0 g0 ops l (aZ n e rs) (Lg n K)
 | [],e,rs,K,h=> .nil (.mk h)
 | o :: l,e,rs,K,h=>by
  obtain ⟨e',he,h1⟩:=uL (rs:=rs) (YA h)
  rw [← he]
  rcases h1 with ⟨h2,h3⟩|⟨h2,h3⟩
  obtain ⟨dst,op,ty,pos,af,gd⟩:=o
  have hval:(El P n e' rs op fun t=>mY dst t e' rs fun e rs=>wQ P w0 g0 n ops.toList l e rs K)→TQ P w0 g0 ops (⟨dst,op,ty,pos,af,gd⟩ :: l) (aZ n e' rs) (Lg n K):=fun hv=>by
   obtain ⟨t,h4,h5⟩:=Fo (w0:=w0) (g0:=g0) (o:=⟨dst,op,ty,pos,af,gd⟩) hv
   obtain ⟨e2,Kk,hs,hk⟩:=gF (n:=n) h5
   exact .yes h2 h4 hs (RQ hk)
  unfold VZ at h3
  simp only at h3
  split at h3
  rename_i c
  obtain ⟨cl,⟨as⟩,ts⟩:=c
  simp only at h3
  split at h3
  obtain ⟨t,h4,h5⟩:=bY (rs:=rs) h3
  split at h5
  split at h5
  obtain ⟨ts,h6,h7⟩:=xl (rs:=rs) h5
  obtain ⟨hc,hs,hp,⟨fn,hf1,hf2,hf3⟩,hk⟩:=h7
  obtain ⟨l',h8,rfl⟩:=o9 (n:=n) (e:=e') hs
  obtain ⟨e2,Kk,Pv,hk2⟩:=gF (n:=n) hk
  exact .U2 h2 rfl h4 hf1 hf2 hf3 h6 hc h8 hp Pv (RQ hk2)
  exact h5.elim
  exact h5.elim
  exact hval h3
  exact hval h3
  obtain ⟨e2,Kk,hs,hk⟩:=gF (n:=n) h3
  exact .skip h2 hs (RQ hk)
section
variable {P:Program} {w0:World} {g0:Gh} {st:St}
theorem TU.skip {Q:St→Prop} (hne:ws.contains i=false) (uq:ops.toList.drop i=o :: tl) (hn:NB ops st o) (hp:st.put o.dst U=bJ) 
  (hq:TU P w0 g0 ops ws bs s l bJ Q):TU P w0 g0 ops ws bs s ((i,0) :: l) st Q:=TU.quiet hne uq (fun a w g hR=>⟨undef, .inr ⟨Ff hn hR,rfl⟩,hp ▸ hR.put X_ o.dst⟩) hq
theorem TU.skip1 {Q:St→Prop} (uq:ops.toList.drop i=o :: tl) (hn:NB ops st o) (hp:st.put o.dst U=bJ) 
  (hq:TU P w0 g0 ops ws bs s l bJ Q):TU P w0 g0 ops ws bs s ((i,1) :: l) st Q:=fun listed hs hc he a w g hR Q' hQ=>by
 have hi:=rz uq
 simp only [xk,bh,beq_iff_eq] at he
 have h1:=he.1
 have Ry:i ∈ Region.ready .any ops listed:=by rw [h1];exact o5.2 rfl
 have hnx:=hq _ hs (hc.set Ry) he.2 _ w g (hp ▸ hR.put X_ o.dst) Q' hQ
 have hw:=Ff hn hR
 refine ⟨fun h0=>(by rw [h1] at h0;cases h0),fun j hj=> ?_⟩
 rw [h1] at hj
 rw [o5.1 hj]
 split
 split
 unfold Us;simp only [hi,hw,gD,if_false];exact hnx
 unfold wpOp;simp only [hi,hw,gD,if_false];exact hnx
 unfold FZ;simp only [hi,hw,gD,if_false];exact hnx
end
theorem xp {α:Type} {l:List α} {x: α} (h:l[i]? = some x):l.drop i=x :: l.drop (i + 1):=by
 obtain ⟨h1,h2⟩:=aM.1 h
 rw [Bg h1,h2]
def Em (i:Nat):List Nat→Bool
 | []=>false
 | x :: l=>Nat.beq i x || Em i l
theorem mz {i:Nat}:∀ {l:List Nat},Em i l=l.contains i
 | []=>rfl
 | x :: l=>by
  simp only [Em,List.contains_cons,mz (l:=l)]
  congr 1
  rw [dX,beq_iff_eq]
  exact ⟨ed,fun h=>by subst h;exact Nat.beq_refl _⟩
def uYes (P:Program) (w0:World) (g0:Gh) (n:Nat) (ws:List Nat) (i b:Nat) (o:Oper) (e:List En) (rs:Rs) (K:Kn):Prop:=match b with
 | 0=>BR (Em i ws) False (El P n e rs o.op fun t=>mY o.dst t e rs K)
 | 1=>BR (Em i ws) (rp false P w0 g0 n o e rs K) (rp true P w0 g0 n o e rs K)
 | _=>False
def uNo (ws:List Nat) (i b:Nat) (o:Oper) (e:List En) (rs:Rs) (K:Kn):Prop:=match b with
 | 0=>BR (Em i ws) False (mY o.dst U e rs K)
 | 1=>mY o.dst U e rs K
 | _=>False
def wU (P:Program) (w0:World) (g0:Gh) (n:Nat) (ops:List Oper) (ws:List Nat) (l:List (Nat×Nat)):List En→Rs→Kn→Prop:=
 @List.rec (Nat×Nat) (fun _=>List En→Rs→Kn→Prop) (fun e rs K=>K e rs) (fun ib _ ih e rs K=>match ib with
 | (i,b)=>sg ops i fun o=>qX n ops o.guard e (fun e=>uYes P w0 g0 n ws i b o e rs fun e rs=>ih e rs K) (fun e=>uNo ws i b o e rs fun e rs=>ih e rs K)) l
theorem YB {ops:List Oper} {b:Nat} {e:List En} (h:wU P w0 g0 n ops ws ((i,b) :: l) e rs K):
  sg ops i fun o=>qX n ops o.guard e (fun e=>uYes P w0 g0 n ws i b o e rs fun e rs=>wU P w0 g0 n ops ws l e rs K) (fun e=>uNo ws i b o e rs fun e rs=>wU P w0 g0 n ops ws l e rs K):=h
theorem Ko {P:Program} {w0:World} {g0:Gh} {n:Nat} {ops:Array Oper} {ws:List Nat}:∀ {l:List (Nat×Nat)} {e:List En} {rs:Rs} {K:Kn},wU P w0 g0 n ops.toList ws l e rs K→TU P w0 g0 ops ws [] [] l (aZ n e rs) (Lg n K)
 | [],e,rs,K,h=> .nil (.mk h)
 | (i,b) :: l,e,rs,K,h=>by
  obtain ⟨o,h0,h1⟩:=iK (YB h)
  have uq:=xp h0
  obtain ⟨e',he,h1⟩:=uL (rs:=rs) h1
  rw [← he]
  rcases h1 with ⟨h2,h3⟩|⟨h2,h3⟩
  unfold uYes at h3
  split at h3
  obtain ⟨h4,h5⟩:=rm h3
  obtain ⟨t,h6,h7⟩:=Fo (w0:=w0) (g0:=g0) h5
  obtain ⟨e2,Kk,hs,hk⟩:=gF (n:=n) h7
  exact .U0 (by rw [← mz];exact h4) uq h2 h6 hs (Ko hk)
  rcases gM.1 h3 with ⟨h4,h5⟩|⟨h4,h5⟩
  refine .opK ⟨by rw [← mz];exact h4,rfl⟩ uq h2 fun K2 NL=> ?_
  have h6:gJ P w0 g0 o (aZ n e' rs) _:=j_ h5
  exact h6.mono fun st ⟨e2,Kk,hs,hk⟩=>NL st (by subst hs;exact Ko hk)
  refine .opM (by rw [← mz];exact h4) uq h2 fun K2 NL=> ?_
  have h6:s3 P w0 g0 o (aZ n e' rs) _:=j_ (m:=true) h5
  exact h6.mono fun st ⟨e2,Kk,hs,hk⟩=>NL st (by subst hs;exact Ko hk)
  exact h3.elim
  unfold uNo at h3
  split at h3
  obtain ⟨h4,h5⟩:=rm h3
  obtain ⟨e2,Kk,hs,hk⟩:=gF (n:=n) h5
  exact .skip (by rw [← mz];exact h4) uq h2 hs (Ko hk)
  obtain ⟨e2,Kk,hs,hk⟩:=gF (n:=n) h3
  exact .skip1 uq h2 hs (Ko hk)
  exact h3.elim
end
abbrev Kx:=Exit→List En→Rs→Prop
def Lf (n:Nat) (K:Kx):Exit→St→Prop:=fun ex st=>∃ e rs,st=aZ n e rs∧K ex e rs
theorem Lf.mk {n:Nat} {K:Kx} {ex:Exit} {e:List En} {rs:Rs} (h:K ex e rs):Lf n K ex (aZ n e rs):=⟨e,rs,rfl,h⟩
structure Ts (P:Program) (w0:World) (g0:Gh) (n:Nat) (ops:Array Oper) (e:List En) (rs:Rs) (K:Kx):Prop where
 h:∀ i,TC P w0 g0 (.region i ops true) (aZ n e rs) (Lf n K)
structure RR (P:Program) (w0:World) (g0:Gh) (n:Nat) (c:Code) (e:List En) (rs:Rs) (K:Kx):Prop where
 h:TC P w0 g0 (.loop c) (aZ n e rs) (Lf n K)
theorem o_ {P:Program} {w0:World} {g0:Gh} {n:Nat} {ops:Array Oper} {e:List En} {rs:Rs} {K:Kx} (h:wQ P w0 g0 n ops.toList ops.toList e rs (K .normal)) (hB:Region.lexB .any ops=true:=by decide +kernel) (hm:P.follows .mixedOrders=true:=by exact rfl):
  Ts P w0 g0 n ops e rs K:=⟨fun i=>TC.X6 hm hB (by
 have h1:=RQ h
 exact fun a w g hR Q' hQ=>h1 a w g hR Q' fun bJ a' ⟨e',fZ,hs,hk⟩ iU=>hQ bJ a' ⟨e',fZ,hs,hk⟩ iU)⟩
theorem cI {P:Program} {w0:World} {g0:Gh} {n:Nat} {ops:Array Oper} {e:List En} {rs:Rs} {K:Kx} (ws:List Nat) (l:List (Nat×Nat)) (h:wU P w0 g0 n ops.toList ws l e rs (K .normal)) (hB:Lx ops ws [] [] l=true:=by decide +kernel) (hm:P.follows .mixedOrders=true:=by exact rfl):
  Ts P w0 g0 n ops e rs K:=⟨fun i=>TC.Yi ws [] [] l hm hB (by
 have h1:=Ko h
 exact fun listed hs hc he a w g hR Q' hQ=>h1 listed hs hc he a w g hR Q' fun bJ a' w' g' ⟨e',fZ,hs,hk⟩ iU=>hQ bJ a' w' g' ⟨e',fZ,hs,hk⟩ iU)⟩
def knownE (x:Operand) (b:Bool) (e:List En):List En:=match x with
 | .tmp d=> .set d (B b) :: e
 | _=>e
def seqK (b:List En→Rs→Kx→Prop) (K:Kx):Kx:=fun ex e rs=>match ex with
 | .normal=>b e rs K
 | ex=>K ex e rs
def V0 (i:Nat) (K:Kx):Kx:=fun ex e rs=>match ex with
 | .exit j=>BR (Nat.beq j i) (K .normal e rs) (K (.exit j) e rs)
 | ex=>K ex e rs
def Kp (x:Operand) (v:Bool) (f:List En→Rs→Kx→Prop) (e:List En) (rs:Rs) (K:Kx):Prop:=match x with
 | .tmp d=>f (.set d (B v) :: e) rs K
 | _=>f e rs K
def wC (P:Program) (w0:World) (g0:Gh) (n:Nat) (c:Code):List En→Rs→Kx→Prop:=
 @Code.rec (fun _=>List En→Rs→Kx→Prop)
  (fun e rs K=>K .normal e rs)
  (fun _ ops dr e rs K=>BR dr (Ts P w0 g0 n ops e rs K) (wL P w0 g0 n ops.toList ops.toList e rs (K .normal)))
  (fun _ _ a b e rs K=>a e rs (seqK b K))
  (fun x _ _ a b e rs K=>gH n e 0 x fun t=>Kc t fun c=>BR c (Kp x true a e rs K) (Kp x false b e rs K))
  (fun i _ c e rs K=>c e rs (V0 i K))
  (fun c _ e rs K=>RR P w0 g0 n c e rs K)
  (fun _ _ _ _ _ _ _ _ _=>False)
  (fun i e rs K=>K (.exit i) e rs)
  (fun _ _ _ _ _=>False)
  (fun _ _ _ _=>False)
  (fun _ _ _ _=>False)
  (fun e rs K=>K .ret e rs)
  (fun _ _ _ _=>False) c
theorem Kq {n:Nat} {e:List En} {rs:Rs} {d:Nat} {b:Bool} (h:T.cH 0 (aZ n e rs) (.tmp d)=some (B b)):aZ n (.set d (B b) :: e) rs=aZ n e rs:=Km h
theorem n7 {P:Program} {w0:World} {g0:Gh} {n:Nat}:∀ {c:Code} {e:List En} {rs:Rs} {K:Kx},wC P w0 g0 n c e rs K→TC P w0 g0 c (aZ n e rs) (Lf n K)
 | .skip,e,rs,K,h=> .skip (.mk h)
 | .exit i,e,rs,K,h=> .exit (.mk h)
 | .ret,e,rs,K,h=> .ret (.mk h)
 | .seq a b,e,rs,K,h=>by
  have h:wC P w0 g0 n a e rs (seqK (wC P w0 g0 n b) K):=h
  refine .seq ((n7 (c:=a) h).mono fun ex st ⟨e',fZ,hs,hk⟩=> ?_)
  subst hs
  cases ex with
  | normal=>exact n7 (c:=b) hk
  | _=>exact .mk hk
 | .block i c,e,rs,K,h=>by
  have h:wC P w0 g0 n c e rs (V0 i K):=h
  refine .block ((n7 (c:=c) h).mono fun ex st ⟨e',fZ,hs,hk⟩=> ?_)
  subst hs
  cases ex with
  | exit j=>
   simp only [Blk]
   have hk:BR (Nat.beq j i) (K .normal e' fZ) (K (.exit j) e' fZ):=hk
   rcases gM.1 hk with ⟨h1,h2⟩|⟨h1,h2⟩
   rw [if_pos (ed h1)];exact .mk h2
   rw [if_neg (fun e=>by subst e;simp at h1)];exact .mk h2
  | _=>exact .mk hk
 | .cond x a b,e,rs,K,h=>by
  have h:gH n e 0 x fun t=>Kc t fun c=>BR c (Kp x true (wC P w0 g0 n a) e rs K) (Kp x false (wC P w0 g0 n b) e rs K):=h
  obtain ⟨t,h1,h2⟩:=bY (rs:=rs) h
  obtain ⟨c,rfl,h3⟩:=F_ h2
  rcases gM.1 h3 with ⟨rfl,h4⟩|⟨rfl,h4⟩
  refine .cond h1 (fun _=> ?_) (fun hc=>by cases hc)
  unfold Kp at h4
  split at h4
  rw [← Kq h1];exact n7 (c:=a) h4
  exact n7 (c:=a) h4
  refine .cond h1 (fun hc=>by cases hc) (fun _=> ?_)
  unfold Kp at h4
  split at h4
  rw [← Kq h1];exact n7 (c:=b) h4
  exact n7 (c:=b) h4
 | .region i ops dr,e,rs,K,h=>by
  have h:BR dr (Ts P w0 g0 n ops e rs K) (wL P w0 g0 n ops.toList ops.toList e rs (K .normal)):=h
  rcases gM.1 h with ⟨rfl,h1⟩|⟨rfl,h1⟩
  exact h1.h i
  refine .region ?_
  have h2:=VY h1
  exact fun a w g hR Q' hQ=>h2 a w g hR Q' fun bJ a' w' g' ⟨e',fZ,hs,hk⟩ iU=>hQ bJ a' w' g' ⟨e',fZ,hs,hk⟩ iU
 | .loop c,e,rs,K,h=>RR.h h
 | .rangeFunc ..,_,_,_,h=>False.elim h
 | .scope ..,_,_,_,h=>False.elim h
 | .label ..,_,_,_,h=>False.elim h
 | .goto ..,_,_,_,h=>False.elim h
 | .refuse ..,_,_,_,h=>False.elim h
def Kr (n:Nat) (e:List En):List Nat→(List En→Prop)→Prop
 | [],k=>k []
 | j :: l,k=>P5 n e j fun t=>Kr n e l fun l=>k (.set j t :: l)
theorem xq {n:Nat} {e:List En}:∀ {l:List Nat} {k:List En→Prop},Kr n e l k→∃ ke,k ke
 | [],k,h=>⟨_,h⟩
 | j :: l,k,h=>by
  obtain ⟨t,_,h2⟩:=yE (rs:=[]) h
  exact (xq (l:=l) h2).elim fun ke h=>⟨_,h⟩
def V1 (rs:Rs):List Nat→(Rs→Prop)→Prop
 | [],k=>k []
 | a :: l,k=>rj rs a fun m row=>V1 rs l fun l=>k ((a,⟨m,row⟩) :: l)
theorem N7 {rs:Rs}:∀ {l:List Nat} {k:Rs→Prop},V1 rs l k→∃ kr,k kr
 | [],k,h=>⟨_,h⟩
 | a :: l,k,h=>by
  obtain ⟨m,row,_,h2⟩:=iZ (n:=0) (e:=[]) h
  exact (N7 (l:=l) h2).elim fun kr h=>⟨_,h⟩
def I9 {α:Type}:List α→List α→(List α→Prop)→Prop
 | [],r,k=>k r
 | x :: l,r,k=>I9 l r fun l=>k (x :: l)
theorem rC {α:Type} {r:List α}:∀ {l:List α} {k:List α→Prop},I9 l r k→k (l ++ r)
 | [],k,h=>h
 | x :: l,k,h=>rC (l:=l) h
def AB (e:List En):List En→Prop→Prop
 | [],k=>k
 | .set j t :: l,k=>(lookW e j fun t'=>nR t' fun t'=>t'=t)∧AB e l k
 | .app _ :: _,_=>False
def Gw (rs:Rs):Rs→Prop
 | []=>True
 | (a,r) :: l=>(rj rs a fun m row=>(⟨m,row⟩:Rt)=r)∧Gw rs l
def Qm (e:List En) (rs:Rs):List (Nat×Nat)→(List En→Rs→Prop)→Prop
 | [],k=>k e rs
 | (a,b) :: l,k=>BR (Nat.blt b 1000000) (k5 b rs (DI a b rs) fun rs=>Qm (.app (Ns a b) :: e) rs l k) False
theorem yM {e:List En}:∀ {l:List En} {k:Prop},AB e l k→(∀ i,look l i= .one .dead ∨ look e i=look l i)∧k
 | [],k,h=>⟨fun i=> .inl rfl,h⟩
 | .set j t :: l,k,h=>by
  obtain ⟨h1,h2⟩:=h
  obtain ⟨h3,h4⟩:=yM (l:=l) h2
  have h5:=gN.1 (sc h1)
  refine ⟨fun i=> ?_,h4⟩
  simp only [look]
  split
  rename_i hb
  rw [← ed hb]
  exact .inr h5
  exact h3 i
 | .app _ :: _,_,h=>h.elim
theorem yN {n:Nat} {e:List En} {rs:Rs}:∀ {l:Rs},Gw rs l→∀ x ∈ l,(aZ n e rs).root x.1=some x.2
 | [],_,x,hx=>by cases hx
 | (a,r) :: l,h,x,hx=>by
  rcases m8.1 hx with rfl|hx
  obtain ⟨m,row,h1,h2⟩:=iZ (n:=n) (e:=e) h.1
  rw [← h2];exact h1
  exact yN (l:=l) h.2 x hx
theorem Gx {n:Nat} {e l:List En} {rs fZ:Rs} (h1:∀ i,look l i= .one .dead ∨ look e i=look l i) (h2:∀ x ∈ fZ,(aZ n e rs).root x.1=some x.2):Can (aZ n e rs) (aZ n l fZ):=by
 refine Can.less ⟨⟨by simp [aZ],fun i t hi=> ?_⟩,fun k r hk=> ?_⟩ (Can.refl _)
 by_cases hin:i < n
 rw [Br hin] at hi ⊢
 simp only [ea] at hi ⊢
 rcases h1 i with h|h
 exact .inl (hi ▸ h)
 exact .inr (h.trans hi)
 simp [aZ,hin] at hi
 simp only [St.root,iX] at hk
 obtain ⟨x,hf,hx⟩:=hk
 have h3:=h2 x (List.mem_of_find?_eq_some hf)
 have h4:=List.find?_some hf
 simp only [beq_iff_eq] at h4
 rw [← h4, ← hx]
 exact h3
theorem RS {n:Nat} {e:List En} {rs:Rs} {a b:Nat}:(aZ n e rs).name a b=aZ n (.app (Ns a b) :: e) (DI a b rs):=iY
theorem Ks {n:Nat}:∀ {l:List (Nat×Nat)} {e:List En} {rs:Rs} {k:List En→Rs→Prop},Qm e rs l k→∃ e' fZ,k e' fZ∧∀ yy,Can (aZ n e' fZ) yy→Can (aZ n e rs) yy
 | [],e,rs,k,h=>⟨e,rs,h,fun _ h=>h⟩
 | (a,b) :: l,e,rs,k,h=>by
  obtain ⟨h1,h2⟩:=bQ h
  obtain ⟨e',fZ,h3,h4⟩:=Ks (n:=n) (l:=l) (hU h2)
  exact ⟨e',fZ,h3,fun yy hc=>Can.name a b RS (h4 yy hc) (fA h1)⟩
def Gy (e:List En) (rs:Rs) (nm:List (Nat×Nat)) (E:List En) (R:Rs):Prop:=Qm e rs nm fun e rs=>AB e E (Gw rs R)
theorem Gy.can {n:Nat} {e E:List En} {rs R:Rs} {nm:List (Nat×Nat)} (h:Gy e rs nm E R):Can (aZ n e rs) (aZ n E R):=by
 obtain ⟨e',fZ,h1,h2⟩:=Ks (n:=n) h
 obtain ⟨h3,h4⟩:=yM h1
 exact h2 _ (Gx h3 (yN h4))
inductive NextW {α:Type} (inv: α→Prop) (v: α→Nat) (x: α) (E: α→List En) (R: α→Rs) (e:List En) (rs:Rs):Prop
 | mk (nm:List (Nat×Nat)) (y: α) (h1:v y < v x) (h2:inv y) (h3:Gy e rs nm (E y) (R y))
def LR (N:List En→Rs→Prop) (K:Kx):Kx:=fun ex e rs=>match ex with
 | .normal=>N e rs
 | ex=>K ex e rs
theorem dL {α:Type} {a b: α} (h:a=b):a=b:=h
theorem fw {P:Program} {w0:World} {g0:Gh} {n:Nat} {c:Code} {e:List En} {rs:Rs} {K:Kx} {α:Type} (js ks:List Nat) (nm:List (Nat×Nat)) (zy: α→List En) (rts: α→Rs) (inv: α→Prop) (v: α→Nat) (x0: α) (h0:inv x0)
  (h:Kr n e js fun ke=>V1 rs ks fun kr=>Gy e rs nm (zy x0 ++ ke) (rts x0 ++ kr)∧
   ∀ x,inv x→I9 (zy x) ke fun E=>I9 (rts x) kr fun R=>∀ N:Kx,(∀ ex e' fZ,LR (NextW inv v x (fun y=>zy y ++ ke) (fun y=>rts y ++ kr)) K ex e' fZ→N ex e' fZ)→wC P w0 g0 n c E R N):RR P w0 g0 n c e rs K:=⟨by
 obtain ⟨ke,h⟩:=xq h
 obtain ⟨kr,h1,h2⟩:=N7 h
 refine TC.loop (fun μ st=>∃ x,inv x∧ μ=v x∧Can st (aZ n (zy x ++ ke) (rts x ++ kr))) (v x0) ⟨x0,h0,rfl,h1.can⟩ fun μ st ⟨x,hi,hv,hc⟩=> ?_
 refine TC.can hc ?_
 refine (n7 (rC (rC (h2 x hi)) _ fun _ _ _ h=>h)).mono fun ex st ⟨e',fZ,hs,hk⟩=> ?_
 subst hs
 cases ex with
 | normal=>
  obtain ⟨nm,y,h3,h4,h5⟩:=hk
  exact ⟨v y,by rw [hv];exact h3,y,h4,rfl,h5.can⟩
 | _=>exact .mk hk⟩
def resW (P:Program) (n:Nat) (e:List En) (rs:Rs) (r:ResultVar) (k:TV→Prop):Prop:=match r with
 | .tmp i=>P5 n e i fun t=>(match t with| .one tv=>k tv|_=>False)
 | .cell a ty=>P5 n e a fun t=>(match t with
  | .one (.ptr pl)=>(match pl with
   | ⟨b,p,q⟩=>(match wZ P ty with
    | some false=>lP rs b p q fun m c=>BR m (NO b p q c fun c=>k (.c c)) False
    | some true=>s_ P ty fun s=>P8 rs b p q s fun m l=>BR m (k (.agg l)) False
    | none=>False))
  | _=>False)
theorem YC {P:Program} {n:Nat} {e:List En} {rs:Rs} {r:ResultVar} {k:TV→Prop} (h:resW P n e rs r k):∃ tv,uA P (aZ n e rs) r=some tv∧k tv:=by
 cases r with
 | tmp i=>
  obtain ⟨t,h1,h2⟩:=yE (rs:=rs) h
  split at h2
  exact ⟨_,by simp [uA,h1],h2⟩
  exact h2.elim
 | cell a ty=>
  obtain ⟨t,h1,h2⟩:=yE (rs:=rs) h
  split at h2
  rename_i pl
  obtain ⟨b,p,q⟩:=pl
  simp only at h2
  split at h2
  rename_i ht
  obtain ⟨m,c,h3,h4,h5⟩:=fF (n:=n) (e:=e) h2
  obtain ⟨rfl,h6⟩:=bQ h5
  exact ⟨_,by simp [uA,h1,h4,ht,h3],Bu h6⟩
  rename_i ht
  obtain ⟨s,h3,h4⟩:=k6 h2
  obtain ⟨l,h5,h6⟩:=Kb (n:=n) (e:=e) h4
  obtain ⟨h7,h8⟩:=bQ h6
  exact ⟨_,by simp [uA,h1,h7,ht,h3,h5],h8⟩
  exact h2.elim
  exact h2.elim
def Kt (P:Program) (n:Nat) (e:List En) (rs:Rs):List ResultVar→(List TV→Prop)→Prop
 | [],k=>k []
 | r :: l,k=>resW P n e rs r fun t=>Kt P n e rs l fun l=>k (t :: l)
theorem xu {P:Program} {n:Nat} {e:List En} {rs:Rs}:∀ {l:List ResultVar} {k:List TV→Prop},Kt P n e rs l k→∃ dm,l.map (uA P (aZ n e rs))=dm.map some∧k dm
 | [],k,h=>⟨[],rfl,h⟩
 | r :: l,k,h=>by
  obtain ⟨t,h1,h2⟩:=YC h
  obtain ⟨dm,h3,h4⟩:=xu (l:=l) h2
  exact ⟨t :: dm,by simp [h1,h3],h4⟩
def hasB (a q:Nat):List (Nat×Nat)→Bool
 | []=>false
 | (b,r) :: l=>(Nat.beq a b && Nat.beq q r) || hasB a q l
def CU:List (Nat×Nat)→Bool
 | []=>true
 | (a,q) :: l=> !hasB a q l && CU l
theorem N8 {a q:Nat}:∀ {l:List (Nat×Nat)},hasB a q l=false→(a,q) ∉ l
 | [],_=>by simp
 | (b,r) :: l,h=>by
  simp only [hasB,Bool.or_eq_false_iff,Bool.and_eq_false_iff] at h
  simp only [m8,Prod.mk.injEq,not_or,not_and]
  refine ⟨fun e1 e2=> ?_,N8 h.2⟩
  subst e1;subst e2
  rcases h.1 with h|h <;> simp at h
theorem yO:∀ {l:List (Nat×Nat)},CU l=true→l.Nodup
 | [],_=>by simp
 | (a,q) :: l,h=>by
  simp only [CU,bh,Bool.not_eq_true'] at h
  exact List.nodup_cons.2 ⟨N8 h.1,yO h.2⟩
def Gz (rs:Rs):List (Nat×Nat)→(List D→Prop)→Prop
 | [],k=>k []
 | (a,q) :: l,k=>lP rs a [] q fun _ c=>(match c with
  | .own d=>Gz rs l fun ds=>k (d :: ds)
  | _=>False)
theorem yP {n:Nat} {e:List En} {rs:Rs}:∀ {l:List (Nat×Nat)} {k:List D→Prop},Gz rs l k→∃ row,iE (aZ n e rs) l=some row∧k row
 | [],k,h=>⟨[],rfl,h⟩
 | (a,q) :: l,k,h=>by
  obtain ⟨_,c,h1,_,h2⟩:=fF (n:=n) (e:=e) h
  split at h2
  obtain ⟨row,h3,h4⟩:=yP (n:=n) (e:=e) (l:=l) h2
  exact ⟨_,by simp [iE,h1,h3],h4⟩
  exact h2.elim
def Tt (P:Program) (n:Nat) (rv:List ResultVar) (R:nQ→Prop) (e:List En) (rs:Rs):Prop:=
 Kt P n e rs rv fun dm=>BR (Nat.ble rv.length 4 && CU (dm.flatMap fR)) (Gz rs (dm.flatMap fR) fun row=>R ⟨row,fun k=>oO (dm.map (jo (dm.flatMap fR) k))⟩) False
def LS (P:Program) (n:Nat) (rv:List ResultVar) (R:nQ→Prop):Kx:=fun ex e rs=>match ex with
 | .normal=>Tt P n rv R e rs
 | .ret=>Tt P n rv R e rs
 | _=>False
theorem vu {P:Program} {n:Nat} {fn:Func} {R:nQ→Prop} {ex:Exit} {st:St} (h:Lf n (LS P n fn.results.toList R) ex st):Ends P fn R ex st:=by
 obtain ⟨e,rs,rfl,h⟩:=h
 have key:Tt P n fn.results.toList R e rs→∀ ex,(ex= .normal ∨ ex= .ret)→Ends P fn R ex (aZ n e rs):=fun h ex hex=>by
  obtain ⟨dm,h1,h2⟩:=xu h
  obtain ⟨h3,h4⟩:=bQ h2
  simp only [bh] at h3
  obtain ⟨row,h5,h6⟩:=yP (n:=n) (e:=e) h4
  exact ⟨hex,fn.results.toList,dm,row,rfl,fA h3.1,h1,yO h3.2,h5,h6⟩
 unfold LS at h
 split at h
 exact key h _ (.inl rfl)
 exact key h _ (.inr rfl)
 exact h.elim
def sj:Nat→List TS→(List En→Prop)→Prop
 | _,[],k=>k []
 | i,t :: l,k=>sj (i + 1) l fun l=>k (.set i t :: l)
theorem jC {m:Nat}:∀ {l:List TS} {i:Nat} {k:List En→Prop},sj i l k→∃ e,(∀ j,look e j=if i ≤ j then (l[j - i]?.getD (.one .dead)) else .one .dead)∧k e
 | [],i,k,h=>⟨[],fun j=>by simp [look],h⟩
 | t :: l,i,k,h=>by
  obtain ⟨e,h1,h2⟩:=jC (m:=m) (l:=l) h
  refine ⟨_,fun j=> ?_,h2⟩
  simp only [look]
  by_cases hj:i=j
  subst hj
  simp
  have hb:Nat.beq i j=false:=dG.2 fun e=>hj (ed e)
  rw [hb,h1 j]
  simp only [gD,if_false]
  by_cases hlt:i ≤ j
  rw [if_pos (by omega),if_pos hlt,show j - i=(j - (i + 1)) + 1 by omega]
  rfl
  rw [if_neg (by omega),if_neg hlt]
theorem mA {n:Nat} {pts:List TS} {e:List En} {rs:Rs} (hn:pts.length ≤ n) (h:∀ j,look e j=if 0 ≤ j then (pts[j - 0]?.getD (.one .dead)) else .one .dead):(⟨pts ++ List.replicate (n - pts.length) (.one .dead),rs⟩:St)=aZ n e rs:=by
 simp only [aZ,St.mk.injEq,and_true]
 apply List.ext_getElem?
 intro j
 simp only [bG,if_true,Nat.sub_zero] at h
 by_cases hj:j < n
 rw [ec,List.getElem?_range hj,Option.map_some,h j]
 by_cases hp:j < pts.length
 rw [rZ hp,bg hp];rfl
 rw [nO (by omega),List.getElem?_replicate,if_pos (by omega),List.getElem?_eq_none (by omega)];rfl
 rw [List.getElem?_eq_none (by simp;omega),List.getElem?_eq_none (by simp;omega)]
inductive rD:D→Prop
 | v (x:Value):rD (.v x)
 | sl (sz:Nat) (ds:List D) (h:ds.length ≤ most) (h2:∀ d ∈ ds,∀ c ∈ d.row,rD c):rD (.sl sz ds)
theorem Ro.YD {w:World} {o:Nat→Tag} {d:D} {v:Value} (h:Ro w o d v):rD d:=by
 induction h with
 | v x hx=>exact .v x
 | nil sz ad c=>exact .sl sz [] (bG _) fun d hd=>by cases hd
 | sl sz ds b off n c us hn hm hnc ho hrow hcell hel ih=>
  refine .sl sz ds (by rw [hn];exact hm) fun d hd c' hc=> ?_
  obtain ⟨i,hi⟩:=List.getElem?_of_mem hd
  obtain ⟨j,hj⟩:=List.getElem?_of_mem hc
  exact ih i d hi j c' hj
def RT:C→Prop
 | .ro d=>rD d
 | _=>True
def Qn:List C→Prop
 | []=>True
 | c :: l=>RT c∧Qn l
def V2:TS→Prop
 | .one (.c c)=>RT c
 | .one (.agg cs)=>Qn cs
 | _=>True
def jq:List TS→Prop
 | []=>True
 | t :: l=>V2 t∧jq l
theorem rD.len {sz:Nat} {ds:List D} (h:rD (.sl sz ds)):ds.length ≤ 9223372036854775807:=by cases h;assumption
theorem rD.map {α:Type} {f: α→D} {sz:Nat} {xs:List α} (h:rD (.sl sz (xs.map f))):xs.length ≤ 9223372036854775807:=by simpa using h.len
theorem gC.most {w:World} {g:Gh} {c:C} {u:Value} (h:gC w g c u):RT c:=by
 cases c with
 | ro d=>exact Ro.YD h
 | _=>trivial
theorem Tu {cs:List C} (h:∀ c ∈ cs,RT c):Qn cs:=by
 induction cs with
 | nil=>trivial
 | cons c l ih=>exact ⟨h c uy,ih fun c hc=>h c (xb _ hc)⟩
theorem dN.most {w:World} {g:Gh} {t:TS} {u:Value} (h:dN w g t u):V2 t:=by
 cases h with
 | one t u h=>
  cases h with
  | c c u h=>exact gC.most h
  | agg cs us hs h=>
   refine Tu fun c hc=> ?_
   obtain ⟨j,hj⟩:=List.getElem?_of_mem hc
   have hl:=(aM.1 hj).1
   exact gC.most (h j c us[j] hj (rY (by omega)))
  | _=>trivial
 | _=>trivial
theorem V3 {ts:List TS} (h:∀ t ∈ ts,V2 t):jq ts:=by
 induction ts with
 | nil=>trivial
 | cons c l ih=>exact ⟨h c uy,ih fun c hc=>h c (xb _ hc)⟩
theorem TC.jq {P:Program} {w0:World} {g0:Gh} {c:Code} {pts r:List TS} {rs:Rs} {Q:Exit→St→Prop} (h:jq pts→TC P w0 g0 c ⟨pts ++ r,rs⟩ Q):TC P w0 g0 c ⟨pts ++ r,rs⟩ Q:=fun a w g hR=>
 h (V3 fun t ht=>by
  obtain ⟨i,hi⟩:=List.getElem?_of_mem ht
  exact (hR.tm i t (by rw [rZ (aM.1 hi).1];exact hi)).most) a w g hR
theorem aF.w {P:Program} {f:FuncId} {fn:Func} {c:Code} {pts:List TS} {R:nQ→Prop} (n:Nat) (hf:P.funcs[f]? = some fn) (h:∀ w g0,jq pts→sj 0 pts fun e=>wC P w g0 n c e [] (LS P n fn.results.toList R))
  (hb:fn.body=some c:=by exact rfl) (hn:fn.ntmps=n:=by exact rfl) (eW:Nat.ble pts.length n=true:=by exact rfl):aF P f pts R:=by
 have hl:=fA eW
 subst hn
 refine aF.of hf hb hl fun w g0=>TC.jq fun hM=> ?_
 obtain ⟨e,h1,h2⟩:=jC (m:=0) (h w g0 hM)
 rw [mA hl h1]
 exact (n7 h2).mono fun ex st hl=>vu hl
end Go.Proofs.YtdliggkohdnipaaGreat.T
