import Derived.Test.YtdliggkohdnipaaGreatPaq
import Derived.Test.YtdliggkohdnipaaGreatPbq
import Derived.Test.YtdliggkohdnipaaGreatPiq
import Derived.Test.YtdliggkohdnipaaGreatRpq
set_option linter.unusedVariables false
set_option linter.unusedSimpArgs false
namespace Go.Proofs.YtdliggkohdnipaaGreat.T
open Go
section
variable {io:Bool} {g need ag:Int} {l:List aV} {m p q:Nat} {y:ax} {h:ap} {k:cE} {x:aV} {z:aQ}
def ye (l k:List aV):Prop:=∀ (m:Nat) (x:aV),l[m]? = some x→∃ y:aV,k[m]? = some y∧y.aa=x.aa
theorem ye.of:ye l l:=fun m x hx=>⟨x,hx,rfl⟩
theorem ye.to {k j:List aV} (h1:ye l k) (h2:ye k j):ye l j:=fun m x hx=>by
 obtain ⟨y,hy,e⟩:=h1 m x hx
 obtain ⟨z,hz,e2⟩:=h2 m y hy
 exact ⟨z,hz,e2.trans e⟩
theorem u6 {y:aV} (hx:l[m]? = some x) (hy:y.aa=x.aa):ye l (l.set m y):=fun i u hu=>by
 rw [nN]
 by_cases hi:m=i
 subst hi
 rw [if_pos rfl,if_pos (aM.1 hx).1]
 rw [hx] at hu
 cases hu
 exact ⟨y,rfl,hy⟩
 rw [if_neg hi]
 exact ⟨u,hu,rfl⟩
theorem T2:ye h.ai (roomFor h).ai:=by
 by_cases hf:fj h=[]
 cases ho:bV h 0 with
 | none=>
  have:roomFor h=h:=by unfold roomFor;rw [hf,ho]
  rw [this]
  exact .of
 | some q=>
  obtain ⟨a,b⟩:=q
  obtain ⟨u,s,hu,hw,_⟩:=pH ho
  rw [ya hf ho,(HE hu hw).2]
  exact u6 hu rfl
 rw [B2 hf]
 exact .of
theorem QV (hs:oV h) (ha:ku h) (hx:h.ai[m]? = some x) (hz:x.ak[p]? = some z) (h1:z.aN= -1):ye h.ai (cB h m p).ai:=by
 obtain ⟨x1,t,l,hr,D5⟩:=y5 hs ha hx hz h1
 have h8:=(hr.hs.cK hr.hx).2.1
 have hp:p < 8:=by have:=(aM.1 hr.hz).1;have:=(hr.hs.cK hr.hx).1;omega
 obtain ⟨y,hy⟩:∃ y,x1.Out[p]? = some y:=⟨_,bg (by omega)⟩
 unfold cB
 rw [tG hr hy]
 refine T2.to ?_
 show ye _ (((roomFor h).ai.set m _).set m _)
 rw [cS]
 exact u6 hr.hx rfl
theorem K1 (hx:h.ai[m]? = some x) (hz:x.ak[p]? = some z):ye h.ai (zB h m p).ai:=by
 by_cases h1:s5 z.bf 2=0
 rw [sS hx hz h1]
 show ye _ ((h.ai.set m _).set m _)
 rw [cS]
 exact u6 hx rfl
 rw [tI hx hz h1]
 exact u6 hx rfl
theorem Di (hs:oV h) (ha:ku h) (hx:h.ai[m]? = some x) (hz:x.ak[p]? = some z):ye h.ai (cP h m p need).ai:=by
 unfold cP
 rw [iv hx hz]
 by_cases h1:z.aN= -1
 have h2:=QV hs ha hx hz h1
 obtain ⟨y,t,h3,h4,_⟩:=yb hs ha hx hz h1
 simp only [if_pos h1]
 split
 exact h2
 exact h2.to (K1 h3 h4)
 simp only [if_neg h1]
 split
 exact .of
 exact K1 hx hz
theorem QW {t:List aQ} {n:Nat} {pages p q:Int} (ht:t.all (jb · pages)=true) (hq:bB t p need=some q):0 ≤ q∧q < pages:=by
 unfold bB at hq
 split at hq
 cases hq
 rename_i h
 simp only [ea] at hq
 simp only [not_or] at h
 have h1:fB t p ≠ bE:=fun e=>h.1 (by rw [e])
 have h2:fB t p ∈ t:=by
  unfold fB at h1 ⊢
  cases ha:m5 t p with
  | none=>rw [ha] at h1;exact absurd rfl h1
  | some s=>
   unfold m5 at ha
   split at ha
   exact aH ha
   cases ha
 have h3:=eY.1 ht _ h2
 simp only [jb,Bool.or_eq_true,bh,decide_eq_true_eq] at h3
 rcases h3 with h3|h3
 exact absurd h3 h1
 have:=h3.1.2
 omega
theorem pN {x:ax} {p q:Int} (hx:bT x=true) (hq:bB x.Live p need=some q):0 ≤ q∧q < 8:=by
 simp only [bT,kL,bh] at hx
 exact QW (n:=0) hx.1.1.1.1.2.1 hq
theorem bW {m:Int}:cM h m g=true ↔ eu h=true∧(0 ≤ m∧m < h.ai.length)∧0 ≤ g∧g < (cK h m.toNat).aa.length:=by simp [cM,and_assoc]
theorem H7 {m:Int} (h0:0 ≤ m):e9 h m=cK h m.toNat:=by
 unfold e9 lS m5 cK
 rw [if_pos h0]
theorem cO {m:Int} (h0:0 ≤ m∧m < h.ai.length):h.ai[m.toNat]? = some (cK h m.toNat):=by
 have h1:h.ai[m.toNat]? = some (h.ai[m.toNat]'(by omega)):=bg (by omega)
 rw [lZ h1]
 exact h1
theorem kv {g:Nat} (hx:h.ai[m]? = some x) (hy:x.aa[g]? = some y):dB h m g=y:=by
 unfold dB
 rw [lZ hx,hy]
 rfl
theorem vT {g:Nat} (hx:h.ai[m]? = some x) (hk:x.Tables[g]? = some k):kept h m g=k:=by
 unfold kept
 rw [lZ hx,hk]
 rfl
def pO (h:ap) (m q:Nat) (need:Int):ap:=if need=2 then lT h m q true else h
def oH (h:ap) (io:Bool) (m g:Int) (ag need:Int):Option bP:=(cR (qG h io) (cq m g) ag).filter (fun e=>fS e.bf need)
theorem jl {m:Int} (hn:¬ (cM h m g=true∧(need=1 ∨ need=2))):find h m g ag need io=none:=by
 unfold find
 rw [if_neg (by simpa using hn)]
theorem vU {m:Int} (hn:cM h m g=true∧(need=1 ∨ need=2)):find h m g ag need io=(bB (dB h m.toNat g.toNat).Live ag need).map fun q=>wk h m.toNat g.toNat ag need io q.toNat:=by
 unfold find
 rw [if_pos (by simpa using hn)]
theorem Cf {m:Int} (h:0 ≤ m):((m.toNat:Nat):Int)=m:=by omega
theorem Dj {m:Int} {e:bP} (h0:0 ≤ m) (h1:0 ≤ g) (he:oH (pO h m.toNat q need) io m g ag need=some e):wk h m.toNat g.toNat ag need io q=(pO h m.toNat q need,e.Host):=by
 unfold oH pO at he
 unfold wk
 rw [Cf h0,Cf h1]
 simp only [he]
 rfl
def putIn (h:ap) (io:Bool) (m g:Int) (ag:Int) (s:aQ):ap:=pz h io (ic (qG h io) ⟨cq m g,ag,s.aN,s.bf⟩)
theorem QX {m:Int} {h1:ap} {s:aQ} (h0:0 ≤ m) (hg:0 ≤ g) (he:oH (pO h m.toNat q need) io m g ag need=none) (hf:filled (pO h m.toNat q need) m.toNat g.toNat ag q need=h1) (hs:(ask (kept h1 m.toNat g.toNat) ag).getD bE=s):wk h m.toNat g.toNat ag need io q=(putIn h1 io m g ag s,s.aN):=by
 subst hf hs
 unfold oH pO at he
 unfold wk
 rw [Cf h0,Cf hg]
 simp only [he]
 rfl
theorem pP {g:Nat} (hl:lets (ask (kept h m g) ag) need=true):filled h m g ag q need=h:=if_pos hl
theorem QY {g:Nat} (hl:lets (ask (kept h m g) ag) need=false) (hx:(cP h m q need).ai[m]? = some x) (hk:x.Tables[g]? = some k) (hy:x.aa[g]? = some y):
  filled h m g ag q need={ cP h m q need with ai:=(cP h m q need).ai.set m { x with Tables:=x.Tables.set g (eX k y.Live x.ak ag) } }:=by
 unfold filled
 rw [if_neg (by rw [hl];decide)]
 simp only [vT hx hk,kv hx hy,lZ hx]
 unfold setTable fT
 rw [lZ hx]
structure Zm (h:ap) (m g:Nat) (q:Nat) (x:aV) (z:aQ) (k:cE) (y:ax):Prop where
 hs:oV h
 ha:ku h
 hx:h.ai[m]? = some x
 hz:x.ak[q]? = some z
 uo:XT z
 hk:x.Tables[g]? = some k
 hy:x.aa[g]? = some y
theorem QZ (hh:ku h) (hx:h.ai[m]? = some x):ku (tH h m x q):=by
 have e:(tH h m x q).ai.flatMap gk=h.ai.flatMap gk:=by
  show (h.ai.set m (wI x q)).flatMap gk=_
  rw [List.flatMap_def,List.flatMap_def,bL]
  congr 1
  apply List.ext_getElem?
  intro i
  rw [nN]
  by_cases hi:m=i
  subst hi
  have hm:=(aM.1 hx).1
  rw [if_pos rfl,if_pos (by rw [aI];exact hm),ec,hx]
  rfl
  rw [if_neg hi]
 unfold ku
 rw [e]
 exact hh
theorem y7 {m:Int} {q:Int} (hg:cM h m g=true) (h2:aj h) (hq:0 ≤ q∧q < 8):∃ x z k y,Zm (pO h m.toNat q.toNat need) m.toNat g.toNat q.toNat x z k y∧y=dB h m.toNat g.toNat:=by
 have h3:=bW.1 hg
 have hx:=cO h3.2.1
 have hmo:=dZ (eE h3.1 hx)
 have hs:=Mx h3.1 h2
 have ha:=B1 h3.1
 obtain ⟨z,hz⟩:∃ z,(cK h m.toNat).ak[q.toNat]? = some z:=⟨_,bg (by omega)⟩
 obtain ⟨k,hk⟩:∃ k,(cK h m.toNat).Tables[g.toNat]? = some k:=⟨_,bg (by omega)⟩
 obtain ⟨y,hy⟩:∃ y,(cK h m.toNat).aa[g.toNat]? = some y:=⟨_,bg (by omega)⟩
 have uo:XT z:=by
  rcases hmo.2.2.2.2.2 z (aH hz) with rfl|h4
  exact ⟨by decide,by decide,fun _=>rfl⟩
  exact ⟨by omega,by omega,fun e=>by omega⟩
 unfold pO
 split
 rw [yc hx]
 exact ⟨_,z,k,y,⟨pL hs hx,QZ ha hx,dS hx,hz,uo,hk,hy⟩,(kv hx hy).symm⟩
 exact ⟨_,z,k,y,⟨hs,ha,hx,hz,uo,hk,hy⟩,(kv hx hy).symm⟩
end
section
variable {c:Code} {fn:Func} {f:FuncId} {pts:List TS} {P:Program}
structure JW (P:Program) (w0:World) (g0:Gh) (n:Nat) (c:Code) (e:List En) (rs:Rs) (K:Kx):Prop where
 h:TC P w0 g0 c (aZ n e rs) (Lf n K)
theorem JW.w {w0:World} {g0:Gh} {n:Nat} {e:List En} {rs:Rs} {K:Kx} (h:wC P w0 g0 n c e rs K):JW P w0 g0 n c e rs K:=⟨n7 h⟩
def T3:Nat→Code→Option (Code×Code)
 | 0,c=>some (.skip,c)
 | k + 1, .seq a b=>match T3 k b with
  | some (p,r)=>some (.seq a p,r)
  | none=>none
 | _,_=>none
theorem W5 {P:Program} {w0:World} {g0:Gh} {n:Nat} {N:Kx} {Q:Exit→St→Prop} (hN:∀ ex e' fZ,N ex e' fZ→ex ≠ .normal→Q ex (aZ n e' fZ)):∀ {k:Nat} {c p r:Code} {e:List En} {rs:Rs},T3 k c=some (p,r)→wC P w0 g0 n p e rs N→(∀ e' fZ,N .normal e' fZ→TC P w0 g0 r (aZ n e' fZ) Q)→TC P w0 g0 c (aZ n e rs) Q
 | 0,c,p,r,e,rs,hp,h,hr=>by
  simp only [T3,ea,Prod.mk.injEq] at hp
  obtain ⟨rfl,rfl⟩:=hp
  exact hr e rs h
 | k + 1, .seq a b,p,r,e,rs,hp,h,hr=>by
  unfold T3 at hp
  cases hq:T3 k b with
  | none=>rw [hq] at hp;cases hp
  | some q=>
   rw [hq] at hp
   obtain ⟨p',r'⟩:=q
   simp only [ea,Prod.mk.injEq] at hp
   obtain ⟨rfl,rfl⟩:=hp
   have h:wC P w0 g0 n a e rs (seqK (wC P w0 g0 n p') N):=h
   refine TC.seq ((n7 h).mono fun ex st ⟨e',fZ,hs,hk⟩=> ?_)
   subst hs
   cases ex with
   | normal=>exact W5 hN hq hk hr
   | _=>exact hN _ _ _ hk (by intro e;cases e)
 | k + 1, .skip,_,_,_,_,hp,_,_=>by cases hp
 | k + 1, .region ..,_,_,_,_,hp,_,_=>by cases hp
 | k + 1, .cond ..,_,_,_,_,hp,_,_=>by cases hp
 | k + 1, .block ..,_,_,_,_,hp,_,_=>by cases hp
 | k + 1, .loop ..,_,_,_,_,hp,_,_=>by cases hp
 | k + 1, .rangeFunc ..,_,_,_,_,hp,_,_=>by cases hp
 | k + 1, .exit ..,_,_,_,_,hp,_,_=>by cases hp
 | k + 1, .scope ..,_,_,_,_,hp,_,_=>by cases hp
 | k + 1, .label ..,_,_,_,_,hp,_,_=>by cases hp
 | k + 1, .goto ..,_,_,_,_,hp,_,_=>by cases hp
 | k + 1, .ret,_,_,_,_,hp,_,_=>by cases hp
 | k + 1, .refuse ..,_,_,_,_,hp,_,_=>by cases hp
theorem JW.cut {P:Program} {w0:World} {g0:Gh} {n:Nat} {c p r:Code} {e:List En} {rs:Rs} {K:Kx} {α:Type} (k:Nat) (js vs xs:List Nat) (zy: α→List En) (rts: α→Rs) (inv: α→Prop) (hp:T3 k c=some (p,r))
  (h:Kr n e js fun ke=>yQ xs rs fun kr=>
   (∀ N:Kx,(∀ ex e' fZ,LR (fun e' fZ=>∃ x,inv x∧GD e' fZ vs (zy x ++ ke) (rts x ++ kr)) K ex e' fZ→N ex e' fZ)→wC P w0 g0 n p e rs N)∧
   ∀ x,inv x→I9 (zy x) ke fun E=>I9 (rts x) kr fun R=>JW P w0 g0 n r E R K):JW P w0 g0 n c e rs K:=⟨by
 obtain ⟨ke,h⟩:=xq h
 obtain ⟨kr,h1,h2⟩:=sr h
 refine W5 (N:=LR (fun e' fZ=>∃ x,inv x∧GD e' fZ vs (zy x ++ ke) (rts x ++ kr)) K) (fun ex e' fZ hr hn=> ?_) hp (h1 _ fun ex e' fZ hr=>hr) fun e' fZ hr=> ?_
 cases ex with
 | normal=>exact absurd rfl hn
 | _=>exact .mk hr
 obtain ⟨x,h3,h4⟩:=hr
 exact TC.can h4.can (rC (rC (h2 x h3))).h⟩
theorem aF.wJ {R:nQ→Prop} (n:Nat) (hf:P.funcs[f]? = some fn) (h:∀ w g0,jq pts→sj 0 pts fun e=>JW P w g0 n c e [] (LS P n fn.results.toList R)) 
  (hb:fn.body=some c:=by exact rfl) (hn:fn.ntmps=n:=by exact rfl) (eW:Nat.ble pts.length n=true:=by exact rfl):aF P f pts R:=by
 have hl:=fA eW
 subst hn
 refine aF.of hf hb hl fun w g0=>TC.jq fun hM=> ?_
 obtain ⟨e,h1,h2⟩:=jC (m:=0) (h w g0 hM)
 rw [mA hl h1]
 exact h2.h.mono fun ex st hl=>vu hl
theorem ng.wJ {row:List D} {R:nQ→Prop} (n:Nat) (hf:P.funcs[f]? = some fn) 
  (hh:∀ w g0,jq pts→sj 0 pts fun e=>zK row fun cs=>JW P w g0 n c e [(1000000,⟨false,cs⟩)] (LS P n fn.results.toList R))
  (hb:fn.body=some c:=by exact rfl) (hn:fn.ntmps=n:=by exact rfl) (eW:Nat.ble pts.length n=true:=by exact rfl):ng P f row pts R:=by
 have hl:=fA eW
 subst hn
 refine eH.P1 rfl hf hb hl fun w g0=>TC.jq fun hM=> ?_
 obtain ⟨e,h1,h2⟩:=jC (m:=0) (hh w g0 hM)
 rw [mA hl h1]
 exact (oq h2).h.mono fun ex st hl=>vu hl
theorem eH.wJ {h:Hand} {R:List D→nQ→Prop} (n:Nat) (hf:P.funcs[f]? = some fn) 
  (hh:∀ w g0,jq pts→sj 0 pts fun e=>V5 h fun hk hm hl rs=>JW P w g0 n c e rs (N9 P n fn.results.toList hk hm hl R))
  (hb:fn.body=some c:=by exact rfl) (hn:fn.ntmps=n:=by exact rfl) (eW:Nat.ble pts.length n=true:=by exact rfl):eH P f h pts R:=by
 have hl:=fA eW
 subst hn
 refine eH.of hf hb hl fun w g0=>TC.jq fun hM=> ?_
 obtain ⟨e,h1,h2⟩:=jC (m:=0) (hh w g0 hM)
 rw [mA hl h1]
 exact (N_ h2).h.mono fun ex st hl=>GB hl
end
end Go.Proofs.YtdliggkohdnipaaGreat.T
