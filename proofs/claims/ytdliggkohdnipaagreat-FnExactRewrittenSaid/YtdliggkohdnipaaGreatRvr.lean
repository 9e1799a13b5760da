import Derived.Test.YtdliggkohdnipaaGreatPar
import Derived.Test.YtdliggkohdnipaaGreatPbr
import Derived.Test.YtdliggkohdnipaaGreatPir
import Derived.Test.YtdliggkohdnipaaGreatRpr
set_option linter.unusedVariables false
set_option linter.unusedSimpArgs false
namespace Go.Proofs.YtdliggkohdnipaaGreat.T
open Go
section
variable {io:Bool} {g need ag:Int} {l:List aO} {m p q:Nat} {y:av} {h:an} {k:bQ} {x:aO} {z:aL}
def wj (l k:List aO):Prop:=∀ (m:Nat) (x:aO),l[m]? = some x→∃ y:aO,k[m]? = some y∧y.aa=x.aa
theorem wj.of:wj l l:=fun m x hx=>⟨x,hx,rfl⟩
theorem wj.to {k j:List aO} (h1:wj l k) (h2:wj k j):wj l j:=fun m x hx=>by
 obtain ⟨y,hy,e⟩:=h1 m x hx
 obtain ⟨z,hz,e2⟩:=h2 m y hy
 exact ⟨z,hz,e2.trans e⟩
theorem th {y:aO} (hx:l[m]? = some x) (hy:y.aa=x.aa):wj l (l.set m y):=fun i u hu=>by
 rw [List.getElem?_set]
 by_cases hi:m=i
 subst hi
 rw [if_pos rfl,if_pos (List.getElem?_eq_some_iff.1 hx).1]
 rw [hx] at hu
 cases hu
 exact ⟨y,rfl,hy⟩
 rw [if_neg hi]
 exact ⟨u,hu,rfl⟩
theorem R9:wj h.ap (roomFor h).ap:=by
 by_cases hf:eE h=[]
 cases ho:bN h 0 with
 | none=>
  have:roomFor h=h:=by unfold roomFor;rw [hf,ho]
  rw [this]
  exact .of
 | some q=>
  obtain ⟨a,b⟩:=q
  obtain ⟨u,s,hu,hw,_⟩:=nW ho
  rw [we hf ho,(FW hu hw).2]
  exact th hu rfl
 rw [AJ hf]
 exact .of
theorem Pm (hs:nD h) (ha:jE h) (hx:h.ap[m]? = some x) (hz:x.ai[p]? = some z) (h1:z.aJ= -1):wj h.ap (cw h m p).ap:=by
 obtain ⟨x1,t,l,hr,CN⟩:=xl hs ha hx hz h1
 have h8:=(hr.hs.cE hr.hx).2.1
 have hp:p < 8:=by have:=(List.getElem?_eq_some_iff.1 hr.hz).1;have:=(hr.hs.cE hr.hx).1;omega
 obtain ⟨y,hy⟩:∃ y,x1.Out[p]? = some y:=⟨_,List.getElem?_eq_getElem (by omega)⟩
 unfold cw
 rw [rT hr hy]
 refine R9.to ?_
 show wj _ (((roomFor h).ap.set m _).set m _)
 rw [List.set_set]
 exact th hr.hx rfl
theorem Jn (hx:h.ap[m]? = some x) (hz:x.ai[p]? = some z):wj h.ap (Ai h m p).ap:=by
 by_cases h1:ry z.aT 2=0
 rw [q9 hx hz h1]
 show wj _ ((h.ap.set m _).set m _)
 rw [List.set_set]
 exact th hx rfl
 rw [rV hx hz h1]
 exact th hx rfl
theorem B1 (hs:nD h) (ha:jE h) (hx:h.ap[m]? = some x) (hz:x.ai[p]? = some z):wj h.ap (cL h m p need).ap:=by
 unfold cL
 rw [gL hx hz]
 by_cases h1:z.aJ= -1
 have h2:=Pm hs ha hx hz h1
 obtain ⟨y,t,h3,h4,_⟩:=wg hs ha hx hz h1
 simp only [if_pos h1]
 split
 exact h2
 exact h2.to (Jn h3 h4)
 simp only [if_neg h1]
 split
 exact .of
 exact Jn hx hz
theorem Pn {t:List aL} {n:Nat} {pages p q:Int} (ht:t.all (iw · pages)=true) (hq:bn t p need=some q):0 ≤ q∧q < pages:=by
 unfold bn at hq
 split at hq
 cases hq
 rename_i h
 simp only [Option.some.injEq] at hq
 simp only [not_or] at h
 have h1:eP t p ≠ bu:=fun e=>h.1 (by rw [e])
 have h2:eP t p ∈ t:=by
  unfold eP at h1 ⊢
  cases ha:kS t p with
  | none=>rw [ha] at h1;exact absurd rfl h1
  | some s=>
   unfold kS at ha
   split at ha
   exact List.mem_of_getElem? ha
   cases ha
 have h3:=List.all_eq_true.1 ht _ h2
 simp only [iw,Bool.or_eq_true,Bool.and_eq_true,decide_eq_true_eq] at h3
 rcases h3 with h3|h3
 exact absurd h3 h1
 have:=h3.1.2
 omega
theorem n5 {x:av} {p q:Int} (hx:bL x=true) (hq:bn x.Live p need=some q):0 ≤ q∧q < 8:=by
 simp only [bL,jP,Bool.and_eq_true] at hx
 exact Pn (n:=0) hx.1.1.1.1.2.1 hq
theorem bO {m:Int}:cG h m g=true ↔ dL h=true∧(0 ≤ m∧m < h.ap.length)∧0 ≤ g∧g < (cE h m.toNat).aa.length:=by simp [cG,and_assoc]
theorem Gi {m:Int} (h0:0 ≤ m):dx h m=cE h m.toNat:=by
 unfold dx je kS cE
 rw [if_pos h0]
theorem cC {m:Int} (h0:0 ≤ m∧m < h.ap.length):h.ap[m.toNat]? = some (cE h m.toNat):=by
 have h1:h.ap[m.toNat]? = some (h.ap[m.toNat]'(by omega)):=List.getElem?_eq_getElem (by omega)
 rw [kM h1]
 exact h1
theorem jF {g:Nat} (hx:h.ap[m]? = some x) (hy:x.aa[g]? = some y):c9 h m g=y:=by
 unfold c9
 rw [kM hx,hy]
 rfl
theorem uv {g:Nat} (hx:h.ap[m]? = some x) (hk:x.Tables[g]? = some k):kept h m g=k:=by
 unfold kept
 rw [kM hx,hk]
 rfl
def n6 (h:an) (m q:Nat) (need:Int):an:=if need=2 then lR h m q true else h
def nt (h:an) (io:Bool) (m g:Int) (ag need:Int):Option bt:=(cK (oK h io) (bZ m g) ag).filter (fun e=>fi e.aT need)
theorem iD {m:Int} (hn:¬ (cG h m g=true∧(need=1 ∨ need=2))):find h m g ag need io=none:=by
 unfold find
 rw [if_neg (by simpa using hn)]
theorem uw {m:Int} (hn:cG h m g=true∧(need=1 ∨ need=2)):find h m g ag need io=(bn (c9 h m.toNat g.toNat).Live ag need).map fun q=>x_ h m.toNat g.toNat ag need io q.toNat:=by
 unfold find
 rw [if_pos (by simpa using hn)]
theorem AX {m:Int} (h:0 ≤ m):((m.toNat:Nat):Int)=m:=by omega
theorem B2 {m:Int} {e:bt} (h0:0 ≤ m) (h1:0 ≤ g) (he:nt (n6 h m.toNat q need) io m g ag need=some e):x_ h m.toNat g.toNat ag need io q=(n6 h m.toNat q need,e.Host):=by
 unfold nt n6 at he
 unfold x_
 rw [AX h0,AX h1]
 simp only [he]
 rfl
def putIn (h:an) (io:Bool) (m g:Int) (ag:Int) (s:aL):an:=o7 h io (gC (oK h io) ⟨bZ m g,ag,s.aJ,s.aT⟩)
theorem Po {m:Int} {h1:an} {s:aL} (h0:0 ≤ m) (hg:0 ≤ g) (he:nt (n6 h m.toNat q need) io m g ag need=none) (hf:filled (n6 h m.toNat q need) m.toNat g.toNat ag q need=h1) (hs:(ask (kept h1 m.toNat g.toNat) ag).getD bu=s):x_ h m.toNat g.toNat ag need io q=(putIn h1 io m g ag s,s.aJ):=by
 subst hf hs
 unfold nt n6 at he
 unfold x_
 rw [AX h0,AX hg]
 simp only [he]
 rfl
theorem n7 {g:Nat} (hl:lets (ask (kept h m g) ag) need=true):filled h m g ag q need=h:=if_pos hl
theorem Pp {g:Nat} (hl:lets (ask (kept h m g) ag) need=false) (hx:(cL h m q need).ap[m]? = some x) (hk:x.Tables[g]? = some k) (hy:x.aa[g]? = some y):
  filled h m g ag q need={ cL h m q need with ap:=(cL h m q need).ap.set m { x with Tables:=x.Tables.set g (eg k y.Live x.ai ag) } }:=by
 unfold filled
 rw [if_neg (by rw [hl];decide)]
 simp only [uv hx hk,jF hx hy,kM hx]
 unfold setTable fD
 rw [kM hx]
structure XB (h:an) (m g:Nat) (q:Nat) (x:aO) (z:aL) (k:bQ) (y:av):Prop where
 hs:nD h
 ha:jE h
 hx:h.ap[m]? = some x
 hz:x.ai[q]? = some z
 sH:Wd z
 hk:x.Tables[g]? = some k
 hy:x.aa[g]? = some y
theorem Pq (hh:jE h) (hx:h.ap[m]? = some x):jE (rU h m x q):=by
 have e:(rU h m x q).ap.flatMap fC=h.ap.flatMap fC:=by
  show (h.ap.set m (uU x q)).flatMap fC=_
  rw [List.flatMap_def,List.flatMap_def,List.map_set]
  congr 1
  apply List.ext_getElem?
  intro i
  rw [List.getElem?_set]
  by_cases hi:m=i
  subst hi
  have hm:=(List.getElem?_eq_some_iff.1 hx).1
  rw [if_pos rfl,if_pos (by rw [List.length_map];exact hm),List.getElem?_map,hx]
  rfl
  rw [if_neg hi]
 unfold jE
 rw [e]
 exact hh
theorem xo {m:Int} {q:Int} (hg:cG h m g=true) (h2:aj h) (hq:0 ≤ q∧q < 8):∃ x z k y,XB (n6 h m.toNat q.toNat need) m.toNat g.toNat q.toNat x z k y∧y=c9 h m.toNat g.toNat:=by
 have h3:=bO.1 hg
 have hx:=cC h3.2.1
 have hmo:=dB (dU h3.1 hx)
 have hs:=KW h3.1 h2
 have ha:=AI h3.1
 obtain ⟨z,hz⟩:∃ z,(cE h m.toNat).ai[q.toNat]? = some z:=⟨_,List.getElem?_eq_getElem (by omega)⟩
 obtain ⟨k,hk⟩:∃ k,(cE h m.toNat).Tables[g.toNat]? = some k:=⟨_,List.getElem?_eq_getElem (by omega)⟩
 obtain ⟨y,hy⟩:∃ y,(cE h m.toNat).aa[g.toNat]? = some y:=⟨_,List.getElem?_eq_getElem (by omega)⟩
 have sH:Wd z:=by
  rcases hmo.2.2.2.2.2 z (List.mem_of_getElem? hz) with rfl|h4
  exact ⟨by decide,by decide,fun _=>rfl⟩
  exact ⟨by omega,by omega,fun e=>by omega⟩
 unfold n6
 split
 rw [wh hx]
 exact ⟨_,z,k,y,⟨nZ hs hx,Pq ha hx,dz hx,hz,sH,hk,hy⟩,(jF hx hy).symm⟩
 exact ⟨_,z,k,y,⟨hs,ha,hx,hz,sH,hk,hy⟩,(jF hx hy).symm⟩
end
section
variable {c:Code} {fn:Func} {f:FuncId} {pts:List TS} {P:Program}
structure JW (P:Program) (w0:World) (g0:Gh) (n:Nat) (c:Code) (e:List En) (rs:Rs) (K:Kx):Prop where
 h:TC P w0 g0 c (aR n e rs) (Lf n K)
theorem JW.w {w0:World} {g0:Gh} {n:Nat} {e:List En} {rs:Rs} {K:Kx} (h:wC P w0 g0 n c e rs K):JW P w0 g0 n c e rs K:=⟨mJ h⟩
def R_:Nat→Code→Option (Code×Code)
 | 0,c=>some (.skip,c)
 | k + 1, .seq a b=>match R_ k b with
  | some (p,r)=>some (.seq a p,r)
  | none=>none
 | _,_=>none
theorem Vd {P:Program} {w0:World} {g0:Gh} {n:Nat} {N:Kx} {Q:Exit→St→Prop} (hN:∀ ex e' fq,N ex e' fq→ex ≠ .normal→Q ex (aR n e' fq)):∀ {k:Nat} {c p r:Code} {e:List En} {rs:Rs},R_ k c=some (p,r)→wC P w0 g0 n p e rs N→(∀ e' fq,N .normal e' fq→TC P w0 g0 r (aR n e' fq) Q)→TC P w0 g0 c (aR n e rs) Q
 | 0,c,p,r,e,rs,hp,h,hr=>by
  simp only [R_,Option.some.injEq,Prod.mk.injEq] at hp
  obtain ⟨rfl,rfl⟩:=hp
  exact hr e rs h
 | k + 1, .seq a b,p,r,e,rs,hp,h,hr=>by
  unfold R_ at hp
  cases hq:R_ k b with
  | none=>rw [hq] at hp;cases hp
  | some q=>
   rw [hq] at hp
   obtain ⟨p',r'⟩:=q
   simp only [Option.some.injEq,Prod.mk.injEq] at hp
   obtain ⟨rfl,rfl⟩:=hp
   have h:wC P w0 g0 n a e rs (ZZ (wC P w0 g0 n p') N):=h
   refine TC.seq ((mJ h).mono fun ex st ⟨e',fq,hs,hk⟩=> ?_)
   subst hs
   cases ex with
   | normal=>exact Vd hN hq hk hr
   | _=>exact hN _ _ _ hk (by intro e;cases e)
 | k + 1, .skip,_,_,_,_,hp,_,_=>by cases hp
 | k + 1, .region ..,_,_,_,_,hp,_,_=>by cases hp
 | k + 1, .cond ..,_,_,_,_,hp,_,_=>by cases hp
 | k + 1, .block ..,_,_,_,_,hp,_,_=>by cases hp
 | k + 1, .loop ..,_,_,_,_,hp,_,_=>by cases hp
 | k + 1, .rangeFunc ..,_,_,_,_,hp,_,_=>by cases hp
 | k + 1, .exit ..,_,_,_,_,hp,_,_=>by cases hp
 | k + 1, .scope ..,_,_,_,_,hp,_,_=>by cases hp
 | k + 1, .label ..,_,_,_,_,hp,_,_=>by cases hp
 | k + 1, .goto ..,_,_,_,_,hp,_,_=>by cases hp
 | k + 1, .ret,_,_,_,_,hp,_,_=>by cases hp
 | k + 1, .refuse ..,_,_,_,_,hp,_,_=>by cases hp
theorem JW.cut {P:Program} {w0:World} {g0:Gh} {n:Nat} {c p r:Code} {e:List En} {rs:Rs} {K:Kx} {α:Type} (k:Nat) (js vs xs:List Nat) (xM: α→List En) (rts: α→Rs) (inv: α→Prop) (hp:R_ k c=some (p,r))
  (h:IR n e js fun ke=>w_ xs rs fun kr=>
   (∀ N:Kx,(∀ ex e' fq,Kg (fun e' fq=>∃ x,inv x∧E2 e' fq vs (xM x ++ ke) (rts x ++ kr)) K ex e' fq→N ex e' fq)→wC P w0 g0 n p e rs N)∧
   ∀ x,inv x→Hl (xM x) ke fun E=>Hl (rts x) kr fun R=>JW P w0 g0 n r E R K):JW P w0 g0 n c e rs K:=⟨by
 obtain ⟨ke,h⟩:=vr h
 obtain ⟨kr,h1,h2⟩:=qH h
 refine Vd (N:=Kg (fun e' fq=>∃ x,inv x∧E2 e' fq vs (xM x ++ ke) (rts x ++ kr)) K) (fun ex e' fq hr hn=> ?_) hp (h1 _ fun ex e' fq hr=>hr) fun e' fq hr=> ?_
 cases ex with
 | normal=>exact absurd rfl hn
 | _=>exact .mk hr
 obtain ⟨x,h3,h4⟩:=hr
 exact TC.can h4.can (pN (pN (h2 x h3))).h⟩
theorem aF.wJ {R:mR→Prop} (n:Nat) (hf:P.funcs[f]? = some fn) (h:∀ w g0,iI pts→qF 0 pts fun e=>JW P w g0 n c e [] (Kh P n fn.results.toList R)) 
  (hb:fn.body=some c:=by exact rfl) (hn:fn.ntmps=n:=by exact rfl) (eK:Nat.ble pts.length n=true:=by exact rfl):aF P f pts R:=by
 have hl:=Nat.le_of_ble_eq_true eK
 subst hn
 refine aF.of hf hb hl fun w g0=>TC.iI fun hM=> ?_
 obtain ⟨e,h1,h2⟩:=iR (m:=0) (h w g0 hM)
 rw [kW hl h1]
 exact h2.h.mono fun ex st hl=>tQ hl
theorem lO.wJ {row:List D} {R:mR→Prop} (n:Nat) (hf:P.funcs[f]? = some fn) 
  (hh:∀ w g0,iI pts→qF 0 pts fun e=>xU row fun cs=>JW P w g0 n c e [(1000000,⟨false,cs⟩)] (Kh P n fn.results.toList R))
  (hb:fn.body=some c:=by exact rfl) (hn:fn.ntmps=n:=by exact rfl) (eK:Nat.ble pts.length n=true:=by exact rfl):lO P f row pts R:=by
 have hl:=Nat.le_of_ble_eq_true eK
 subst hn
 refine eA.Om rfl hf hb hl fun w g0=>TC.iI fun hM=> ?_
 obtain ⟨e,h1,h2⟩:=iR (m:=0) (hh w g0 hM)
 rw [kW hl h1]
 exact (mY h2).h.mono fun ex st hl=>tQ hl
theorem eA.wJ {h:Hand} {R:List D→mR→Prop} (n:Nat) (hf:P.funcs[f]? = some fn) 
  (hh:∀ w g0,iI pts→qF 0 pts fun e=>Uk h fun hk hm hl rs=>JW P w g0 n c e rs (MD P n fn.results.toList hk hm hl R))
  (hb:fn.body=some c:=by exact rfl) (hn:fn.ntmps=n:=by exact rfl) (eK:Nat.ble pts.length n=true:=by exact rfl):eA P f h pts R:=by
 have hl:=Nat.le_of_ble_eq_true eK
 subst hn
 refine eA.of hf hb hl fun w g0=>TC.iI fun hM=> ?_
 obtain ⟨e,h1,h2⟩:=iR (m:=0) (hh w g0 hM)
 rw [kW hl h1]
 exact (ME h2).h.mono fun ex st hl=>E0 hl
end
end Go.Proofs.YtdliggkohdnipaaGreat.T
