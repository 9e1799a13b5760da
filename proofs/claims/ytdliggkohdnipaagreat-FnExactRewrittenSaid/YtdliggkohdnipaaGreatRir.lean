import Derived.Test.YtdliggkohdnipaaGreatRgr
set_option linter.unusedVariables false
set_option linter.unusedSimpArgs false
namespace Go.Proofs.YtdliggkohdnipaaGreat.T
open Go
section
variable {ops:Array Oper} {g0:Gh} {K:Kn} {l:List (Nat×Nat)} {bs s ws:List Nat} {rest tl:List Oper} {i n:Nat} {o:Oper} {P:Program} {rs:Rs} {bD:St} {t:TS} {w0:World}
theorem IM {e:List En} (h:(aR n e rs).tmps[i]? = some t):aR n (.set i t :: e) rs=aR n e rs:=by
 rw [← Ey]
 simp only [St.put]
 congr 1
 apply List.ext_getElem?
 intro j
 rw [List.getElem?_set]
 split
 rename_i hij
 subst hij
 show _=(aR n e rs).tmps[i]?
 rw [h]
 split
 rfl
 rename_i hl
 rw [List.getElem?_eq_none (by omega)] at h
 cases h
 rfl
def o5 (n:Nat) (ops:List Oper) (gd:Option (Nat×Bool)) (e:List En) (yes no:List En→Prop):Prop:=match gd with
 | none=>yes e
 | some jw=>(match jw with
  | (j,want)=>qD ops j fun oj=>(match oj.dst with
   | some d=>Oq n e d fun t=>(match t with
    | .lp ts=>(match ts with| []=>no e|_=>False)
    | .one (.c (.ro (.v (.bool b))))=>BR b (BR want (yes (.set d (B true) :: e)) (no (.set d (B true) :: e))) (BR want (no (.set d (B false) :: e)) (yes (.set d (B false) :: e)))
    | _=>False)
   | none=>False))
theorem sY {e:List En} {Y N:List En→Prop} (h:o5 n ops.toList o.guard e Y N):
  ∃ e',aR n e' rs=aR n e rs∧((yes ops (aR n e' rs) o∧Y e') ∨ (L8 ops (aR n e' rs) o∧N e')):=by
 unfold o5 at h
 split at h
 rename_i hg
 exact ⟨e,rfl, .inl ⟨S8 hg,h⟩⟩
 rename_i jw hg
 obtain ⟨j,want⟩:=jw
 simp only at h
 obtain ⟨oj,h1,h2⟩:=hJ h
 have Ie:ops[j]? = some oj:=by simpa using h1
 split at h2
 rename_i d hd
 obtain ⟨t,h3,h4⟩:=wI (rs:=rs) h2
 have oX:∀ e',aR n e' rs=aR n e rs→guardOf ops (aR n e' rs) j=some t:=fun e' he=>by
  rw [he]
  simp [guardOf,Ie,hd,h3]
 split at h4
 split at h4
 exact ⟨e,rfl, .inr ⟨Zd hg (oX e rfl),h4⟩⟩
 exact h4.elim
 have hs:=IM h3
 rcases fY.1 h4 with ⟨rfl,h5⟩|⟨rfl,h5⟩
 rcases fY.1 h5 with ⟨rfl,h6⟩|⟨rfl,h6⟩
 exact ⟨_,hs, .inl ⟨L4 hg (oX _ hs) rfl,h6⟩⟩
 exact ⟨_,hs, .inr ⟨S9 hg (oX _ hs) rfl,h6⟩⟩
 rcases fY.1 h5 with ⟨rfl,h6⟩|⟨rfl,h6⟩
 exact ⟨_,hs, .inr ⟨S9 hg (oX _ hs) rfl,h6⟩⟩
 exact ⟨_,hs, .inl ⟨L4 hg (oX _ hs) rfl,h6⟩⟩
 exact h4.elim
 exact h2.elim
section
variable {P:Program} {w0:World} {g0:Gh} {st:St}
theorem TL.yes {Q:St→Prop} (hg:yes ops st o) (h:fX P w0 g0 o st (fun bD=>TL P w0 g0 ops rest bD Q)):TL P w0 g0 ops (o :: rest) st Q:=fun a w g hR Q' hQ=>wpList_step fun K hK=>by
 rw [if_pos (ql hg hR)]
 exact h a w g hR K Q' fun bD a' w' g' q r=>hK _ _ (q a' w' g' r Q' hQ)
theorem fX.mono {Q Q':St→Prop} (h:fX P w0 g0 o st Q) (hq:∀ st,Q st→Q' st):fX P w0 g0 o st Q':=fun a w g hR K Q2 hK=>h a w g hR K Q2 fun bD a' w' g' q r=>hK bD a' w' g' (hq _ q) r
theorem rq.mono {Q Q':St→Prop} (h:rq P w0 g0 o st Q) (hq:∀ st,Q st→Q' st):rq P w0 g0 o st Q':=fun a w g hR K hK=>h a w g hR K fun bD a' w' g' q r=>hK bD a' w' g' (hq _ q) r
end
def wL (P:Program) (w0:World) (g0:Gh) (n:Nat) (ops l:List Oper):List En→Rs→Kn→Prop:=
 @List.rec Oper (fun _=>List En→Rs→Kn→Prop) (fun e rs K=>K e rs)
  (fun o _ ih e rs K=>o5 n ops o.guard e (fun e=>pF false P w0 g0 n o e rs fun e rs=>ih e rs K) (fun e=>lB o.dst U e rs fun e rs=>ih e rs K)) l
theorem WY {ops:List Oper} {l:List Oper} {e:List En} (h:wL P w0 g0 n ops (o :: l) e rs K):o5 n ops o.guard e (fun e=>pF false P w0 g0 n o e rs fun e rs=>wL P w0 g0 n ops l e rs K) (fun e=>lB o.dst U e rs fun e rs=>wL P w0 g0 n ops l e rs K):=h
theorem Ud {P:Program} {w0:World} {g0:Gh} {n:Nat} {ops:Array Oper}:∀ {l:List Oper} {e:List En} {rs:Rs} {K:Kn},wL P w0 g0 n ops.toList l e rs K→TL P w0 g0 ops l (aR n e rs) (Lg n K)
 | [],e,rs,K,h=> .nil (.mk h)
 | o :: l,e,rs,K,h=>by
  obtain ⟨e',he,h1⟩:=sY (rs:=rs) (WY h)
  rw [← he]
  rcases h1 with ⟨h2,h3⟩|⟨h2,h3⟩
  refine .yes h2 ?_
  have h4:fX P w0 g0 o (aR n e' rs) _:=jq h3
  exact h4.mono fun st ⟨e2,IK,hs,hk⟩=>by subst hs;exact Ud hk
  obtain ⟨e2,IK,hs,hk⟩:=fR (n:=n) h3
  exact .skip h2 hs (Ud hk)
inductive Yw (P:Program) (w0:World) (g0:Gh) (e:List En) (rs:Rs) (f:FuncId) (ts:List TS) (dst:Option Nat) (K:Kn):Prop
 | mk {pts:List TS} {t:TS} {x:Value} (hc:xI P w0 g0 f pts (RP t)) (hs:tO rs ts fun l=>l=pts) (hp:oG t=some x) (hf:dK P f) (hk:lB dst t e rs K)
theorem iQ {e:List En} {f:FuncId} {ts pts:List TS} {d:Nat} {x:Value} (hc:xI P w0 g0 f pts (RP t)) (hk:K (.set d t :: e) rs) 
  (hs:tO rs ts fun l=>l=pts:=by (repeat first|exact rfl|refine eB.mk (by first|exact WD.w|assumption) ?_|refine xT (by assumption) ?_);done)
  (hp:oG t=some x:=by exact rfl) (hf:dK P f:=by exact .mk rfl rfl rfl):Yw P w0 g0 e rs f ts (some d) K:= .mk hc hs hp hf hk
def Ue (P:Program) (w0:World) (g0:Gh) (n:Nat) (o:Oper) (e:List En) (rs:Rs) (K:Kn):Prop:=match o with
 | ⟨dst,op,_,_,_,_⟩=>(match op with
  | .call c=>(match c with
   | ⟨cl,as,ts⟩=>(match cl with
    | .value cx=>fT n e 0 cx fun t=>(match t with
     | .fn f l=>(match l with
      | []=>(match as with|⟨as⟩=>Ix n e as fun ts=>Yw P w0 g0 e rs f ts dst K)
      | _=>False)
     | _=>False)
    | _=>C1 P n e rs (.call ⟨cl,as,ts⟩) fun t=>lB dst t e rs K))
  | op=>C1 P n e rs op fun t=>lB dst t e rs K)
def wQ (P:Program) (w0:World) (g0:Gh) (n:Nat) (ops l:List Oper):List En→Rs→Kn→Prop:=
 @List.rec Oper (fun _=>List En→Rs→Kn→Prop) (fun e rs K=>K e rs)
  (fun o _ ih e rs K=>o5 n ops o.guard e (fun e=>Ue P w0 g0 n o e rs fun e rs=>ih e rs K) (fun e=>lB o.dst U e rs fun e rs=>ih e rs K)) l
theorem WZ {ops:List Oper} {l:List Oper} {e:List En} (h:wQ P w0 g0 n ops (o :: l) e rs K):o5 n ops o.guard e (fun e=>Ue P w0 g0 n o e rs fun e rs=>wQ P w0 g0 n ops l e rs K) (fun e=>lB o.dst U e rs fun e rs=>wQ P w0 g0 n ops l e rs K):=h
section
variable {P:Program} {w0:World} {g0:Gh} {st:St}
theorem TQ.yes {Q:St→Prop} (hg:yes ops st o) (h:dQ P w0 g0 o st t) (hp:st.put o.dst t=bD) (hq:TQ P w0 g0 ops rest bD Q):TQ P w0 g0 ops (o :: rest) st Q:=by
 rcases hg with hg|⟨j,want,b,hg,hb,he⟩
 exact TQ.S7 hg h hp hq
 exact TQ.Zb hg hb he h hp hq
end
theorem Qj {P:Program} {w0:World} {g0:Gh} {n:Nat} {ops:Array Oper}:∀ {l:List Oper} {e:List En} {rs:Rs} {K:Kn},wQ P w0 g0 n ops.toList l e rs K→TQ P w0 g0 ops l (aR n e rs) (Lg n K)
 | [],e,rs,K,h=> .nil (.mk h)
 | o :: l,e,rs,K,h=>by
  obtain ⟨e',he,h1⟩:=sY (rs:=rs) (WZ h)
  rw [← he]
  rcases h1 with ⟨h2,h3⟩|⟨h2,h3⟩
  obtain ⟨dst,op,ty,pos,af,gd⟩:=o
  have hval:(C1 P n e' rs op fun t=>lB dst t e' rs fun e rs=>wQ P w0 g0 n ops.toList l e rs K)→TQ P w0 g0 ops (⟨dst,op,ty,pos,af,gd⟩ :: l) (aR n e' rs) (Lg n K):=fun hv=>by
   obtain ⟨t,h4,h5⟩:=DO (w0:=w0) (g0:=g0) (o:=⟨dst,op,ty,pos,af,gd⟩) hv
   obtain ⟨e2,IK,hs,hk⟩:=fR (n:=n) h5
   exact .yes h2 h4 hs (Qj hk)
  unfold Ue at h3
  simp only at h3
  split at h3
  rename_i c
  obtain ⟨cl,⟨as⟩,ts⟩:=c
  simp only at h3
  split at h3
  obtain ⟨t,h4,h5⟩:=bR (rs:=rs) h3
  split at h5
  split at h5
  obtain ⟨ts,h6,h7⟩:=vn (rs:=rs) h5
  obtain ⟨hc,hs,hp,⟨fn,hf1,hf2,hf3⟩,hk⟩:=h7
  obtain ⟨l',h8,rfl⟩:=nO (n:=n) (e:=e') hs
  obtain ⟨e2,IK,NT,hk2⟩:=fR (n:=n) hk
  exact .P5 h2 rfl h4 hf1 hf2 hf3 h6 hc h8 hp NT (Qj hk2)
  exact h5.elim
  exact h5.elim
  exact hval h3
  exact hval h3
  obtain ⟨e2,IK,hs,hk⟩:=fR (n:=n) h3
  exact .skip h2 hs (Qj hk)
section
variable {P:Program} {w0:World} {g0:Gh} {st:St}
theorem TU.skip {Q:St→Prop} (hne:ws.contains i=false) (sI:ops.toList.drop i=o :: tl) (hn:L8 ops st o) (hp:st.put o.dst U=bD) 
  (hq:TU P w0 g0 ops ws bs s l bD Q):TU P w0 g0 ops ws bs s ((i,0) :: l) st Q:=TU.quiet hne sI (fun a w g hR=>⟨undef, .inr ⟨DG hn hR,rfl⟩,hp ▸ hR.put Wu o.dst⟩) hq
theorem TU.skip1 {Q:St→Prop} (sI:ops.toList.drop i=o :: tl) (hn:L8 ops st o) (hp:st.put o.dst U=bD) 
  (hq:TU P w0 g0 ops ws bs s l bD Q):TU P w0 g0 ops ws bs s ((i,1) :: l) st Q:=fun listed hs hc he a w g hR Q' hQ=>by
 have hi:=pJ sI
 simp only [vm,Bool.and_eq_true,beq_iff_eq] at he
 have h1:=he.1
 have P8:i ∈ Region.ready .any ops listed:=by rw [h1];exact List.mem_singleton.2 rfl
 have hnx:=hq _ hs (hc.set P8) he.2 _ w g (hp ▸ hR.put Wu o.dst) Q' hQ
 have hw:=DG hn hR
 refine ⟨fun h0=>(by rw [h1] at h0;cases h0),fun j hj=> ?_⟩
 rw [h1] at hj
 rw [List.mem_singleton.1 hj]
 split
 split
 unfold Sw;simp only [hi,hw,Bool.false_eq_true,if_false];exact hnx
 unfold wpOp;simp only [hi,hw,Bool.false_eq_true,if_false];exact hnx
 unfold Ep;simp only [hi,hw,Bool.false_eq_true,if_false];exact hnx
end
theorem vq {α:Type} {l:List α} {x: α} (h:l[i]? = some x):l.drop i=x :: l.drop (i + 1):=by
 obtain ⟨h1,h2⟩:=List.getElem?_eq_some_iff.1 h
 rw [List.drop_eq_getElem_cons h1,h2]
def C2 (i:Nat):List Nat→Bool
 | []=>false
 | x :: l=>Nat.beq i x || C2 i l
theorem kV {i:Nat}:∀ {l:List Nat},C2 i l=l.contains i
 | []=>rfl
 | x :: l=>by
  simp only [C2,List.contains_cons,kV (l:=l)]
  congr 1
  rw [Bool.eq_iff_iff,beq_iff_eq]
  exact ⟨Nat.eq_of_beq_eq_true,fun h=>by subst h;exact Nat.beq_refl _⟩
def ZY (P:Program) (w0:World) (g0:Gh) (n:Nat) (ws:List Nat) (i b:Nat) (o:Oper) (e:List En) (rs:Rs) (K:Kn):Prop:=match b with
 | 0=>BR (C2 i ws) False (C1 P n e rs o.op fun t=>lB o.dst t e rs K)
 | 1=>BR (C2 i ws) (pF false P w0 g0 n o e rs K) (pF true P w0 g0 n o e rs K)
 | _=>False
def uNo (ws:List Nat) (i b:Nat) (o:Oper) (e:List En) (rs:Rs) (K:Kn):Prop:=match b with
 | 0=>BR (C2 i ws) False (lB o.dst U e rs K)
 | 1=>lB o.dst U e rs K
 | _=>False
def wU (P:Program) (w0:World) (g0:Gh) (n:Nat) (ops:List Oper) (ws:List Nat) (l:List (Nat×Nat)):List En→Rs→Kn→Prop:=
 @List.rec (Nat×Nat) (fun _=>List En→Rs→Kn→Prop) (fun e rs K=>K e rs) (fun ib _ ih e rs K=>match ib with
 | (i,b)=>qD ops i fun o=>o5 n ops o.guard e (fun e=>ZY P w0 g0 n ws i b o e rs fun e rs=>ih e rs K) (fun e=>uNo ws i b o e rs fun e rs=>ih e rs K)) l
theorem W0 {ops:List Oper} {b:Nat} {e:List En} (h:wU P w0 g0 n ops ws ((i,b) :: l) e rs K):
  qD ops i fun o=>o5 n ops o.guard e (fun e=>ZY P w0 g0 n ws i b o e rs fun e rs=>wU P w0 g0 n ops ws l e rs K) (fun e=>uNo ws i b o e rs fun e rs=>wU P w0 g0 n ops ws l e rs K):=h
theorem IN {P:Program} {w0:World} {g0:Gh} {n:Nat} {ops:Array Oper} {ws:List Nat}:∀ {l:List (Nat×Nat)} {e:List En} {rs:Rs} {K:Kn},wU P w0 g0 n ops.toList ws l e rs K→TU P w0 g0 ops ws [] [] l (aR n e rs) (Lg n K)
 | [],e,rs,K,h=> .nil (.mk h)
 | (i,b) :: l,e,rs,K,h=>by
  obtain ⟨o,h0,h1⟩:=hJ (W0 h)
  have sI:=vq h0
  obtain ⟨e',he,h1⟩:=sY (rs:=rs) h1
  rw [← he]
  rcases h1 with ⟨h2,h3⟩|⟨h2,h3⟩
  unfold ZY at h3
  split at h3
  obtain ⟨h4,h5⟩:=pE h3
  obtain ⟨t,h6,h7⟩:=DO (w0:=w0) (g0:=g0) h5
  obtain ⟨e2,IK,hs,hk⟩:=fR (n:=n) h7
  exact .S7 (by rw [← kV];exact h4) sI h2 h6 hs (IN hk)
  rcases fY.1 h3 with ⟨h4,h5⟩|⟨h4,h5⟩
  refine .opK ⟨by rw [← kV];exact h4,rfl⟩ sI h2 fun K2 Mh=> ?_
  have h6:fX P w0 g0 o (aR n e' rs) _:=jq h5
  exact h6.mono fun st ⟨e2,IK,hs,hk⟩=>Mh st (by subst hs;exact IN hk)
  refine .opM (by rw [← kV];exact h4) sI h2 fun K2 Mh=> ?_
  have h6:rq P w0 g0 o (aR n e' rs) _:=jq (m:=true) h5
  exact h6.mono fun st ⟨e2,IK,hs,hk⟩=>Mh st (by subst hs;exact IN hk)
  exact h3.elim
  unfold uNo at h3
  split at h3
  obtain ⟨h4,h5⟩:=pE h3
  obtain ⟨e2,IK,hs,hk⟩:=fR (n:=n) h5
  exact .skip (by rw [← kV];exact h4) sI h2 hs (IN hk)
  obtain ⟨e2,IK,hs,hk⟩:=fR (n:=n) h3
  exact .skip1 sI h2 hs (IN hk)
  exact h3.elim
end
abbrev Kx:=Exit→List En→Rs→Prop
def Lf (n:Nat) (K:Kx):Exit→St→Prop:=fun ex st=>∃ e rs,st=aR n e rs∧K ex e rs
theorem Lf.mk {n:Nat} {K:Kx} {ex:Exit} {e:List En} {rs:Rs} (h:K ex e rs):Lf n K ex (aR n e rs):=⟨e,rs,rfl,h⟩
structure RM (P:Program) (w0:World) (g0:Gh) (n:Nat) (ops:Array Oper) (e:List En) (rs:Rs) (K:Kx):Prop where
 h:∀ i,TC P w0 g0 (.region i ops true) (aR n e rs) (Lf n K)
structure Qk (P:Program) (w0:World) (g0:Gh) (n:Nat) (c:Code) (e:List En) (rs:Rs) (K:Kx):Prop where
 h:TC P w0 g0 (.loop c) (aR n e rs) (Lf n K)
theorem pM {P:Program} {w0:World} {g0:Gh} {n:Nat} {ops:Array Oper} {e:List En} {rs:Rs} {K:Kx} (h:wQ P w0 g0 n ops.toList ops.toList e rs (K .normal)) (hB:Region.lexB .any ops=true:=by decide +kernel) (hm:P.follows .mixedOrders=true:=by exact rfl):
  RM P w0 g0 n ops e rs K:=⟨fun i=>TC.Wp hm hB (by
 have h1:=Qj h
 exact fun a w g hR Q' hQ=>h1 a w g hR Q' fun bD a' ⟨e',fq,hs,hk⟩ hU=>hQ bD a' ⟨e',fq,hs,hk⟩ hU)⟩
theorem cJ {P:Program} {w0:World} {g0:Gh} {n:Nat} {ops:Array Oper} {e:List En} {rs:Rs} {K:Kx} (ws:List Nat) (l:List (Nat×Nat)) (h:wU P w0 g0 n ops.toList ws l e rs (K .normal)) (hB:JS ops ws [] [] l=true:=by decide +kernel) (hm:P.follows .mixedOrders=true:=by exact rfl):
  RM P w0 g0 n ops e rs K:=⟨fun i=>TC.WE ws [] [] l hm hB (by
 have h1:=IN h
 exact fun listed hs hc he a w g hR Q' hQ=>h1 listed hs hc he a w g hR Q' fun bD a' w' g' ⟨e',fq,hs,hk⟩ hU=>hQ bD a' w' g' ⟨e',fq,hs,hk⟩ hU)⟩
def knownE (x:Operand) (b:Bool) (e:List En):List En:=match x with
 | .tmp d=> .set d (B b) :: e
 | _=>e
def ZZ (b:List En→Rs→Kx→Prop) (K:Kx):Kx:=fun ex e rs=>match ex with
 | .normal=>b e rs K
 | ex=>K ex e rs
def Uf (i:Nat) (K:Kx):Kx:=fun ex e rs=>match ex with
 | .exit j=>BR (Nat.beq j i) (K .normal e rs) (K (.exit j) e rs)
 | ex=>K ex e rs
def IP (x:Operand) (v:Bool) (f:List En→Rs→Kx→Prop) (e:List En) (rs:Rs) (K:Kx):Prop:=match x with
 | .tmp d=>f (.set d (B v) :: e) rs K
 | _=>f e rs K
def wC (P:Program) (w0:World) (g0:Gh) (n:Nat) (c:Code):List En→Rs→Kx→Prop:=
 @Code.rec (fun _=>List En→Rs→Kx→Prop)
  (fun e rs K=>K .normal e rs)
  (fun _ ops dr e rs K=>BR dr (RM P w0 g0 n ops e rs K) (wL P w0 g0 n ops.toList ops.toList e rs (K .normal)))
  (fun _ _ a b e rs K=>a e rs (ZZ b K))
  (fun x _ _ a b e rs K=>fT n e 0 x fun t=>IC t fun c=>BR c (IP x true a e rs K) (IP x false b e rs K))
  (fun i _ c e rs K=>c e rs (Uf i K))
  (fun c _ e rs K=>Qk P w0 g0 n c e rs K)
  (fun _ _ _ _ _ _ _ _ _=>False)
  (fun i e rs K=>K (.exit i) e rs)
  (fun _ _ _ _ _=>False)
  (fun _ _ _ _=>False)
  (fun _ _ _ _=>False)
  (fun e rs K=>K .ret e rs)
  (fun _ _ _ _=>False) c
theorem IQ {n:Nat} {e:List En} {rs:Rs} {d:Nat} {b:Bool} (h:T.cy 0 (aR n e rs) (.tmp d)=some (B b)):aR n (.set d (B b) :: e) rs=aR n e rs:=IM h
theorem mJ {P:Program} {w0:World} {g0:Gh} {n:Nat}:∀ {c:Code} {e:List En} {rs:Rs} {K:Kx},wC P w0 g0 n c e rs K→TC P w0 g0 c (aR n e rs) (Lf n K)
 | .skip,e,rs,K,h=> .skip (.mk h)
 | .exit i,e,rs,K,h=> .exit (.mk h)
 | .ret,e,rs,K,h=> .ret (.mk h)
 | .seq a b,e,rs,K,h=>by
  have h:wC P w0 g0 n a e rs (ZZ (wC P w0 g0 n b) K):=h
  refine .seq ((mJ (c:=a) h).mono fun ex st ⟨e',fq,hs,hk⟩=> ?_)
  subst hs
  cases ex with
  | normal=>exact mJ (c:=b) hk
  | _=>exact .mk hk
 | .block i c,e,rs,K,h=>by
  have h:wC P w0 g0 n c e rs (Uf i K):=h
  refine .block ((mJ (c:=c) h).mono fun ex st ⟨e',fq,hs,hk⟩=> ?_)
  subst hs
  cases ex with
  | exit j=>
   simp only [Blk]
   have hk:BR (Nat.beq j i) (K .normal e' fq) (K (.exit j) e' fq):=hk
   rcases fY.1 hk with ⟨h1,h2⟩|⟨h1,h2⟩
   rw [if_pos (Nat.eq_of_beq_eq_true h1)];exact .mk h2
   rw [if_neg (fun e=>by subst e;simp at h1)];exact .mk h2
  | _=>exact .mk hk
 | .cond x a b,e,rs,K,h=>by
  have h:fT n e 0 x fun t=>IC t fun c=>BR c (IP x true (wC P w0 g0 n a) e rs K) (IP x false (wC P w0 g0 n b) e rs K):=h
  obtain ⟨t,h1,h2⟩:=bR (rs:=rs) h
  obtain ⟨c,rfl,h3⟩:=EA h2
  rcases fY.1 h3 with ⟨rfl,h4⟩|⟨rfl,h4⟩
  refine .cond h1 (fun _=> ?_) (fun hc=>by cases hc)
  unfold IP at h4
  split at h4
  rw [← IQ h1];exact mJ (c:=a) h4
  exact mJ (c:=a) h4
  refine .cond h1 (fun hc=>by cases hc) (fun _=> ?_)
  unfold IP at h4
  split at h4
  rw [← IQ h1];exact mJ (c:=b) h4
  exact mJ (c:=b) h4
 | .region i ops dr,e,rs,K,h=>by
  have h:BR dr (RM P w0 g0 n ops e rs K) (wL P w0 g0 n ops.toList ops.toList e rs (K .normal)):=h
  rcases fY.1 h with ⟨rfl,h1⟩|⟨rfl,h1⟩
  exact h1.h i
  refine .region ?_
  have h2:=Ud h1
  exact fun a w g hR Q' hQ=>h2 a w g hR Q' fun bD a' w' g' ⟨e',fq,hs,hk⟩ hU=>hQ bD a' w' g' ⟨e',fq,hs,hk⟩ hU
 | .loop c,e,rs,K,h=>Qk.h h
 | .rangeFunc ..,_,_,_,h=>False.elim h
 | .scope ..,_,_,_,h=>False.elim h
 | .label ..,_,_,_,h=>False.elim h
 | .goto ..,_,_,_,h=>False.elim h
 | .refuse ..,_,_,_,h=>False.elim h
def IR (n:Nat) (e:List En):List Nat→(List En→Prop)→Prop
 | [],k=>k []
 | j :: l,k=>Oq n e j fun t=>IR n e l fun l=>k (.set j t :: l)
theorem vr {n:Nat} {e:List En}:∀ {l:List Nat} {k:List En→Prop},IR n e l k→∃ ke,k ke
 | [],k,h=>⟨_,h⟩
 | j :: l,k,h=>by
  obtain ⟨t,_,h2⟩:=wI (rs:=[]) h
  exact (vr (l:=l) h2).elim fun ke h=>⟨_,h⟩
def Ug (rs:Rs):List Nat→(Rs→Prop)→Prop
 | [],k=>k []
 | a :: l,k=>pz rs a fun m row=>Ug rs l fun l=>k ((a,⟨m,row⟩) :: l)
theorem MB {rs:Rs}:∀ {l:List Nat} {k:Rs→Prop},Ug rs l k→∃ kr,k kr
 | [],k,h=>⟨_,h⟩
 | a :: l,k,h=>by
  obtain ⟨m,row,_,h2⟩:=ir (n:=0) (e:=[]) h
  exact (MB (l:=l) h2).elim fun kr h=>⟨_,h⟩
def Hl {α:Type}:List α→List α→(List α→Prop)→Prop
 | [],r,k=>k r
 | x :: l,r,k=>Hl l r fun l=>k (x :: l)
theorem pN {α:Type} {r:List α}:∀ {l:List α} {k:List α→Prop},Hl l r k→k (l ++ r)
 | [],k,h=>h
 | x :: l,k,h=>pN (l:=l) h
def yM (e:List En):List En→Prop→Prop
 | [],k=>k
 | .set j t :: l,k=>(lookW e j fun t'=>mw t' fun t'=>t'=t)∧yM e l k
 | .app _ :: _,_=>False
def EV (rs:Rs):Rs→Prop
 | []=>True
 | (a,r) :: l=>(pz rs a fun m row=>(⟨m,row⟩:Rt)=r)∧EV rs l
def OL (e:List En) (rs:Rs):List (Nat×Nat)→(List En→Rs→Prop)→Prop
 | [],k=>k e rs
 | (a,b) :: l,k=>BR (Nat.blt b 1000000) (j4 b rs (Cl a b rs) fun rs=>OL (.app (LZ a b) :: e) rs l k) False
theorem wW {e:List En}:∀ {l:List En} {k:Prop},yM e l k→(∀ i,look l i= .one .dead ∨ look e i=look l i)∧k
 | [],k,h=>⟨fun i=> .inl rfl,h⟩
 | .set j t :: l,k,h=>by
  obtain ⟨h1,h2⟩:=h
  obtain ⟨h3,h4⟩:=wW (l:=l) h2
  have h5:=fZ.1 (qC h1)
  refine ⟨fun i=> ?_,h4⟩
  simp only [look]
  split
  rename_i hb
  rw [← Nat.eq_of_beq_eq_true hb]
  exact .inr h5
  exact h3 i
 | .app _ :: _,_,h=>h.elim
theorem wX {n:Nat} {e:List En} {rs:Rs}:∀ {l:Rs},EV rs l→∀ x ∈ l,(aR n e rs).root x.1=some x.2
 | [],_,x,hx=>by cases hx
 | (a,r) :: l,h,x,hx=>by
  rcases List.mem_cons.1 hx with rfl|hx
  obtain ⟨m,row,h1,h2⟩:=ir (n:=n) (e:=e) h.1
  rw [← h2];exact h1
  exact wX (l:=l) h.2 x hx
theorem EW {n:Nat} {e l:List En} {rs fq:Rs} (h1:∀ i,look l i= .one .dead ∨ look e i=look l i) (h2:∀ x ∈ fq,(aR n e rs).root x.1=some x.2):Can (aR n e rs) (aR n l fq):=by
 refine Can.less ⟨⟨by simp [aR],fun i t hi=> ?_⟩,fun k r hk=> ?_⟩ (Can.refl _)
 by_cases hin:i < n
 rw [zS hin] at hi ⊢
 simp only [Option.some.injEq] at hi ⊢
 rcases h1 i with h|h
 exact .inl (hi ▸ h)
 exact .inr (h.trans hi)
 simp [aR,hin] at hi
 simp only [St.root,Option.map_eq_some_iff] at hk
 obtain ⟨x,hf,hx⟩:=hk
 have h3:=h2 x (List.mem_of_find?_eq_some hf)
 have h4:=List.find?_some hf
 simp only [beq_iff_eq] at h4
 rw [← h4, ← hx]
 exact h3
theorem Ql {n:Nat} {e:List En} {rs:Rs} {a b:Nat}:(aR n e rs).name a b=aR n (.app (LZ a b) :: e) (Cl a b rs):=iq
theorem IS {n:Nat}:∀ {l:List (Nat×Nat)} {e:List En} {rs:Rs} {k:List En→Rs→Prop},OL e rs l k→∃ e' fq,k e' fq∧∀ wB,Can (aR n e' fq) wB→Can (aR n e rs) wB
 | [],e,rs,k,h=>⟨e,rs,h,fun _ h=>h⟩
 | (a,b) :: l,e,rs,k,h=>by
  obtain ⟨h1,h2⟩:=bG h
  obtain ⟨e',fq,h3,h4⟩:=IS (n:=n) (l:=l) (gz h2)
  exact ⟨e',fq,h3,fun wB hc=>Can.name a b Ql (h4 wB hc) (Nat.le_of_ble_eq_true h1)⟩
def EX (e:List En) (rs:Rs) (nm:List (Nat×Nat)) (E:List En) (R:Rs):Prop:=OL e rs nm fun e rs=>yM e E (EV rs R)
theorem EX.can {n:Nat} {e E:List En} {rs R:Rs} {nm:List (Nat×Nat)} (h:EX e rs nm E R):Can (aR n e rs) (aR n E R):=by
 obtain ⟨e',fq,h1,h2⟩:=IS (n:=n) h
 obtain ⟨h3,h4⟩:=wW h1
 exact h2 _ (EW h3 (wX h4))
inductive Yx {α:Type} (inv: α→Prop) (v: α→Nat) (x: α) (E: α→List En) (R: α→Rs) (e:List En) (rs:Rs):Prop
 | mk (nm:List (Nat×Nat)) (y: α) (h1:v y < v x) (h2:inv y) (h3:EX e rs nm (E y) (R y))
def Kg (N:List En→Rs→Prop) (K:Kx):Kx:=fun ex e rs=>match ex with
 | .normal=>N e rs
 | ex=>K ex e rs
theorem eV {α:Type} {a b: α} (h:a=b):a=b:=h
theorem gA {P:Program} {w0:World} {g0:Gh} {n:Nat} {c:Code} {e:List En} {rs:Rs} {K:Kx} {α:Type} (js ks:List Nat) (nm:List (Nat×Nat)) (xM: α→List En) (rts: α→Rs) (inv: α→Prop) (v: α→Nat) (x0: α) (h0:inv x0)
  (h:IR n e js fun ke=>Ug rs ks fun kr=>EX e rs nm (xM x0 ++ ke) (rts x0 ++ kr)∧
   ∀ x,inv x→Hl (xM x) ke fun E=>Hl (rts x) kr fun R=>∀ N:Kx,(∀ ex e' fq,Kg (Yx inv v x (fun y=>xM y ++ ke) (fun y=>rts y ++ kr)) K ex e' fq→N ex e' fq)→wC P w0 g0 n c E R N):Qk P w0 g0 n c e rs K:=⟨by
 obtain ⟨ke,h⟩:=vr h
 obtain ⟨kr,h1,h2⟩:=MB h
 refine TC.loop (fun μ st=>∃ x,inv x∧ μ=v x∧Can st (aR n (xM x ++ ke) (rts x ++ kr))) (v x0) ⟨x0,h0,rfl,h1.can⟩ fun μ st ⟨x,hi,hv,hc⟩=> ?_
 refine TC.can hc ?_
 refine (mJ (pN (pN (h2 x hi)) _ fun _ _ _ h=>h)).mono fun ex st ⟨e',fq,hs,hk⟩=> ?_
 subst hs
 cases ex with
 | normal=>
  obtain ⟨nm,y,h3,h4,h5⟩:=hk
  exact ⟨v y,by rw [hv];exact h3,y,h4,rfl,h5.can⟩
 | _=>exact .mk hk⟩
def resW (P:Program) (n:Nat) (e:List En) (rs:Rs) (r:ResultVar) (k:TV→Prop):Prop:=match r with
 | .tmp i=>Oq n e i fun t=>(match t with| .one tv=>k tv|_=>False)
 | .cell a ty=>Oq n e a fun t=>(match t with
  | .one (.ptr pl)=>(match pl with
   | ⟨b,p,q⟩=>(match u9 P ty with
    | some false=>kE rs b p q fun m c=>BR m (Mk b p q c fun c=>k (.c c)) False
    | some true=>rF P ty fun s=>Ov rs b p q s fun m l=>BR m (k (.agg l)) False
    | none=>False))
  | _=>False)
theorem W1 {P:Program} {n:Nat} {e:List En} {rs:Rs} {r:ResultVar} {k:TV→Prop} (h:resW P n e rs r k):∃ tv,sN P (aR n e rs) r=some tv∧k tv:=by
 cases r with
 | tmp i=>
  obtain ⟨t,h1,h2⟩:=wI (rs:=rs) h
  split at h2
  exact ⟨_,by simp [sN,h1],h2⟩
  exact h2.elim
 | cell a ty=>
  obtain ⟨t,h1,h2⟩:=wI (rs:=rs) h
  split at h2
  rename_i pl
  obtain ⟨b,p,q⟩:=pl
  simp only at h2
  split at h2
  rename_i ht
  obtain ⟨m,c,h3,h4,h5⟩:=eU (n:=n) (e:=e) h2
  obtain ⟨rfl,h6⟩:=bG h5
  exact ⟨_,by simp [sN,h1,h4,ht,h3],zW h6⟩
  rename_i ht
  obtain ⟨s,h3,h4⟩:=j5 h2
  obtain ⟨l,h5,h6⟩:=IB (n:=n) (e:=e) h4
  obtain ⟨h7,h8⟩:=bG h6
  exact ⟨_,by simp [sN,h1,h7,ht,h3,h5],h8⟩
  exact h2.elim
  exact h2.elim
def IT (P:Program) (n:Nat) (e:List En) (rs:Rs):List ResultVar→(List TV→Prop)→Prop
 | [],k=>k []
 | r :: l,k=>resW P n e rs r fun t=>IT P n e rs l fun l=>k (t :: l)
theorem vt {P:Program} {n:Nat} {e:List En} {rs:Rs}:∀ {l:List ResultVar} {k:List TV→Prop},IT P n e rs l k→∃ cZ,l.map (sN P (aR n e rs))=cZ.map some∧k cZ
 | [],k,h=>⟨[],rfl,h⟩
 | r :: l,k,h=>by
  obtain ⟨t,h1,h2⟩:=W1 h
  obtain ⟨cZ,h3,h4⟩:=vt (l:=l) h2
  exact ⟨t :: cZ,by simp [h1,h3],h4⟩
def hasB (a q:Nat):List (Nat×Nat)→Bool
 | []=>false
 | (b,r) :: l=>(Nat.beq a b && Nat.beq q r) || hasB a q l
def BD:List (Nat×Nat)→Bool
 | []=>true
 | (a,q) :: l=> !hasB a q l && BD l
theorem MC {a q:Nat}:∀ {l:List (Nat×Nat)},hasB a q l=false→(a,q) ∉ l
 | [],_=>by simp
 | (b,r) :: l,h=>by
  simp only [hasB,Bool.or_eq_false_iff,Bool.and_eq_false_iff] at h
  simp only [List.mem_cons,Prod.mk.injEq,not_or,not_and]
  refine ⟨fun e1 e2=> ?_,MC h.2⟩
  subst e1;subst e2
  rcases h.1 with h|h <;> simp at h
theorem wY:∀ {l:List (Nat×Nat)},BD l=true→l.Nodup
 | [],_=>by simp
 | (a,q) :: l,h=>by
  simp only [BD,Bool.and_eq_true,Bool.not_eq_true'] at h
  exact List.nodup_cons.2 ⟨MC h.1,wY h.2⟩
def EY (rs:Rs):List (Nat×Nat)→(List D→Prop)→Prop
 | [],k=>k []
 | (a,q) :: l,k=>kE rs a [] q fun _ c=>(match c with
  | .own d=>EY rs l fun ds=>k (d :: ds)
  | _=>False)
theorem wZ {n:Nat} {e:List En} {rs:Rs}:∀ {l:List (Nat×Nat)} {k:List D→Prop},EY rs l k→∃ row,gV (aR n e rs) l=some row∧k row
 | [],k,h=>⟨[],rfl,h⟩
 | (a,q) :: l,k,h=>by
  obtain ⟨_,c,h1,_,h2⟩:=eU (n:=n) (e:=e) h
  split at h2
  obtain ⟨row,h3,h4⟩:=wZ (n:=n) (e:=e) (l:=l) h2
  exact ⟨_,by simp [gV,h1,h3],h4⟩
  exact h2.elim
def RN (P:Program) (n:Nat) (rv:List ResultVar) (R:mR→Prop) (e:List En) (rs:Rs):Prop:=
 IT P n e rs rv fun cZ=>BR (Nat.ble rv.length 4 && BD (cZ.flatMap fh)) (EY rs (cZ.flatMap fh) fun row=>R ⟨row,fun k=>nx (cZ.map (iH (cZ.flatMap fh) k))⟩) False
def Kh (P:Program) (n:Nat) (rv:List ResultVar) (R:mR→Prop):Kx:=fun ex e rs=>match ex with
 | .normal=>RN P n rv R e rs
 | .ret=>RN P n rv R e rs
 | _=>False
theorem tQ {P:Program} {n:Nat} {fn:Func} {R:mR→Prop} {ex:Exit} {st:St} (h:Lf n (Kh P n fn.results.toList R) ex st):Ends P fn R ex st:=by
 obtain ⟨e,rs,rfl,h⟩:=h
 have key:RN P n fn.results.toList R e rs→∀ ex,(ex= .normal ∨ ex= .ret)→Ends P fn R ex (aR n e rs):=fun h ex hex=>by
  obtain ⟨cZ,h1,h2⟩:=vt h
  obtain ⟨h3,h4⟩:=bG h2
  simp only [Bool.and_eq_true] at h3
  obtain ⟨row,h5,h6⟩:=wZ (n:=n) (e:=e) h4
  exact ⟨hex,fn.results.toList,cZ,row,rfl,Nat.le_of_ble_eq_true h3.1,h1,wY h3.2,h5,h6⟩
 unfold Kh at h
 split at h
 exact key h _ (.inl rfl)
 exact key h _ (.inr rfl)
 exact h.elim
def qF:Nat→List TS→(List En→Prop)→Prop
 | _,[],k=>k []
 | i,t :: l,k=>qF (i + 1) l fun l=>k (.set i t :: l)
theorem iR {m:Nat}:∀ {l:List TS} {i:Nat} {k:List En→Prop},qF i l k→∃ e,(∀ j,look e j=if i ≤ j then (l[j - i]?.getD (.one .dead)) else .one .dead)∧k e
 | [],i,k,h=>⟨[],fun j=>by simp [look],h⟩
 | t :: l,i,k,h=>by
  obtain ⟨e,h1,h2⟩:=iR (m:=m) (l:=l) h
  refine ⟨_,fun j=> ?_,h2⟩
  simp only [look]
  by_cases hj:i=j
  subst hj
  simp
  have hb:Nat.beq i j=false:=Bool.eq_false_iff.2 fun e=>hj (Nat.eq_of_beq_eq_true e)
  rw [hb,h1 j]
  simp only [Bool.false_eq_true,if_false]
  by_cases hlt:i ≤ j
  rw [if_pos (by omega),if_pos hlt,show j - i=(j - (i + 1)) + 1 by omega]
  rfl
  rw [if_neg (by omega),if_neg hlt]
theorem kW {n:Nat} {pts:List TS} {e:List En} {rs:Rs} (hn:pts.length ≤ n) (h:∀ j,look e j=if 0 ≤ j then (pts[j - 0]?.getD (.one .dead)) else .one .dead):(⟨pts ++ List.replicate (n - pts.length) (.one .dead),rs⟩:St)=aR n e rs:=by
 simp only [aR,St.mk.injEq,and_true]
 apply List.ext_getElem?
 intro j
 simp only [Nat.zero_le,if_true,Nat.sub_zero] at h
 by_cases hj:j < n
 rw [List.getElem?_map,List.getElem?_range hj,Option.map_some,h j]
 by_cases hp:j < pts.length
 rw [List.getElem?_append_left hp,List.getElem?_eq_getElem hp];rfl
 rw [List.getElem?_append_right (by omega),List.getElem?_replicate,if_pos (by omega),List.getElem?_eq_none (by omega)];rfl
 rw [List.getElem?_eq_none (by simp;omega),List.getElem?_eq_none (by simp;omega)]
inductive pO:D→Prop
 | v (x:Value):pO (.v x)
 | sl (sz:Nat) (ds:List D) (h:ds.length ≤ most) (h2:∀ d ∈ ds,∀ c ∈ d.row,pO c):pO (.sl sz ds)
theorem Ro.W2 {w:World} {o:Nat→Tag} {d:D} {v:Value} (h:Ro w o d v):pO d:=by
 induction h with
 | v x hx=>exact .v x
 | nil sz ad c=>exact .sl sz [] (Nat.zero_le _) fun d hd=>by cases hd
 | sl sz ds b off n c us hn hm hnc ho hrow hcell hel ih=>
  refine .sl sz ds (by rw [hn];exact hm) fun d hd c' hc=> ?_
  obtain ⟨i,hi⟩:=List.getElem?_of_mem hd
  obtain ⟨j,hj⟩:=List.getElem?_of_mem hc
  exact ih i d hi j c' hj
def Qm:C→Prop
 | .ro d=>pO d
 | _=>True
def OM:List C→Prop
 | []=>True
 | c :: l=>Qm c∧OM l
def Uh:TS→Prop
 | .one (.c c)=>Qm c
 | .one (.agg cs)=>OM cs
 | _=>True
def iI:List TS→Prop
 | []=>True
 | t :: l=>Uh t∧iI l
theorem pO.len {sz:Nat} {ds:List D} (h:pO (.sl sz ds)):ds.length ≤ 9223372036854775807:=by cases h;assumption
theorem pO.map {α:Type} {f: α→D} {sz:Nat} {xs:List α} (h:pO (.sl sz (xs.map f))):xs.length ≤ 9223372036854775807:=by simpa using h.len
theorem fO.most {w:World} {g:Gh} {c:C} {u:Value} (h:fO w g c u):Qm c:=by
 cases c with
 | ro d=>exact Ro.W2 h
 | _=>trivial
theorem RO {cs:List C} (h:∀ c ∈ cs,Qm c):OM cs:=by
 induction cs with
 | nil=>trivial
 | cons c l ih=>exact ⟨h c List.mem_cons_self,ih fun c hc=>h c (List.mem_cons_of_mem _ hc)⟩
theorem dy.most {w:World} {g:Gh} {t:TS} {u:Value} (h:dy w g t u):Uh t:=by
 cases h with
 | one t u h=>
  cases h with
  | c c u h=>exact fO.most h
  | agg cs us hs h=>
   refine RO fun c hc=> ?_
   obtain ⟨j,hj⟩:=List.getElem?_of_mem hc
   have hl:=(List.getElem?_eq_some_iff.1 hj).1
   exact fO.most (h j c us[j] hj (Array.getElem?_eq_getElem (by omega)))
  | _=>trivial
 | _=>trivial
theorem Ui {ts:List TS} (h:∀ t ∈ ts,Uh t):iI ts:=by
 induction ts with
 | nil=>trivial
 | cons c l ih=>exact ⟨h c List.mem_cons_self,ih fun c hc=>h c (List.mem_cons_of_mem _ hc)⟩
theorem TC.iI {P:Program} {w0:World} {g0:Gh} {c:Code} {pts r:List TS} {rs:Rs} {Q:Exit→St→Prop} (h:iI pts→TC P w0 g0 c ⟨pts ++ r,rs⟩ Q):TC P w0 g0 c ⟨pts ++ r,rs⟩ Q:=fun a w g hR=>
 h (Ui fun t ht=>by
  obtain ⟨i,hi⟩:=List.getElem?_of_mem ht
  exact (hR.tm i t (by rw [List.getElem?_append_left (List.getElem?_eq_some_iff.1 hi).1];exact hi)).most) a w g hR
theorem aF.w {P:Program} {f:FuncId} {fn:Func} {c:Code} {pts:List TS} {R:mR→Prop} (n:Nat) (hf:P.funcs[f]? = some fn) (h:∀ w g0,iI pts→qF 0 pts fun e=>wC P w g0 n c e [] (Kh P n fn.results.toList R))
  (hb:fn.body=some c:=by exact rfl) (hn:fn.ntmps=n:=by exact rfl) (eK:Nat.ble pts.length n=true:=by exact rfl):aF P f pts R:=by
 have hl:=Nat.le_of_ble_eq_true eK
 subst hn
 refine aF.of hf hb hl fun w g0=>TC.iI fun hM=> ?_
 obtain ⟨e,h1,h2⟩:=iR (m:=0) (h w g0 hM)
 rw [kW hl h1]
 exact (mJ h2).mono fun ex st hl=>tQ hl
end Go.Proofs.YtdliggkohdnipaaGreat.T
