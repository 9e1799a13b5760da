import Derived.Test.YtdliggkohdnipaaGreatRer
set_option linter.unusedVariables false
set_option linter.unusedSimpArgs false
namespace Go.Proofs.YtdliggkohdnipaaGreat.T
open Go
section
variable {one:Bool} {d:D} {p:List (Nat×Nat)} {ds er r row:List D} {b i j n q q1 sz:Nat} {rs:Rs}
structure Lv where
 row:List D
 q:Nat
 sz:Nat
 ds:List D
 i:Nat
 one:Bool
def lN (one:Bool) (r:List D):D:=if one then r.headD .hole else .st r
def dS:List Lv→List D→List D
 | [],er=>er
 | l :: ls,er=>l.row.set l.q (.sl l.sz (l.ds.set l.i (lN l.one (dS ls er))))
def Mw:D→Bool
 | .st _=>false
 | _=>true
def Ab (one:Bool) (r:List D):Prop:=one=true→∃ x,r=[x]∧Mw x=true
def WU:List Lv→List D→Prop
 | [],_=>True
 | l :: ls,er=>l.q < l.row.length∧l.i < l.ds.length∧Ab l.one (dS ls er)∧WU ls er
theorem Ka {x:D} (h:Mw x=true):x.row=[x]:=by cases x <;> first|rfl|cases h
theorem Ac (h:Ab one r):(lN one r).row=r:=by
 unfold lN
 cases one with
 | false=>rfl
 | true=>
  obtain ⟨x,rfl,hx⟩:=h rfl
  exact Ka hx
theorem EJ {r':List D} (h:Ab one r) (h':Ab one r'):(lN one r).pn r'=lN one r':=by
 unfold lN
 cases one with
 | false=>rfl
 | true=>
  obtain ⟨x,rfl,hx⟩:=h rfl
  obtain ⟨y,rfl,hy⟩:=h' rfl
  cases x <;> first|rfl|cases hx
def vp (ls:List Lv):List (Nat×Nat):=ls.map fun l=>(l.q,l.i)
theorem xV {j:Nat} {d:D}:∀ {ls:List Lv} {er:List D},WU ls er→WU ls (er.set j d)→j < er.length→setAt (dS ls er) (vp ls) j d=some (dS ls (er.set j d))
 | [],er,_,_,hj=>by simp [dS,vp,setAt,hj]
 | l :: ls,er,h,h',hj=>by
  obtain ⟨h1,h2,h3,h4⟩:=h
  obtain ⟨_,_,h3',h4'⟩:=h'
  have ih:=xV h4 h4' hj
  have e1:(l.row.set l.q (.sl l.sz (l.ds.set l.i (lN l.one (dS ls er)))))[l.q]? = some (.sl l.sz (l.ds.set l.i (lN l.one (dS ls er)))):=by simp [h1]
  have e2:(l.ds.set l.i (lN l.one (dS ls er)))[l.i]? = some (lN l.one (dS ls er)):=by simp [h2]
  show setAt _ ((l.q,l.i) :: vp ls) j d=_
  simp only [setAt,dS,e1,e2,Ac h3,ih,Option.map_some,List.set_set,EJ h3 h3']
def EK:List Lv→List D→(List D→Prop)→Prop
 | [],er,k=>k er
 | l :: ls,er,k=>match l with
  | ⟨row,q,sz,ds,i,one⟩=>EK ls er fun r=>(match one with
   | true=>(match r with
    | []=>False
    | x :: _=>Bu row q (.sl sz (ds.set i x)) k)
   | false=>Bu row q (.sl sz (ds.set i (.st r))) k)
theorem Cu:∀ {ls:List Lv} {er:List D} {k:List D→Prop},EK ls er k→k (dS ls er)
 | [],er,k,h=>h
 | l :: ls,er,k,h=>by
  obtain ⟨row,q,sz,ds,i,one⟩:=l
  have h1:=Cu (ls:=ls) h
  cases one with
  | true=>
   simp only [dS,lN,if_true]
   simp only at h1
   split at h1
   exact h1.elim
   rename_i x l hr
   rw [hr]
   exact (lZ h1).2
  | false=>
   simp only [dS,lN]
   exact (lZ h1).2
def ZS (q i:Nat) (row:List D) (f:List D→(List Lv→List D→Prop)→Prop) (k:List Lv→List D→Prop):Prop:=qD row q fun c=>match c with
 | .sl sz ds=>WG ds i fun e=>(match e with
  | .st er=>kv er fun er=>f er fun ls Bi=>k (⟨row,q,sz,ds,i,false⟩ :: ls) Bi
  | .v x=>f [.v x] fun ls Bi=>k (⟨row,q,sz,ds,i,true⟩ :: ls) Bi
  | .sl s l=>f [.sl s l] fun ls Bi=>k (⟨row,q,sz,ds,i,true⟩ :: ls) Bi
  | .hole=>False)
 | _=>False
def OH (row:List D) (p:List (Nat×Nat)) (k:List Lv→List D→Prop):Prop:=
 @List.rec (Nat×Nat) (fun _=>List D→(List Lv→List D→Prop)→Prop) (fun row k=>k [] row) (fun qi _ ih row k=>match qi with
  | (q,i)=>ZS q i row (fun r k=>ih r k) k) p row k
theorem RF {k:List Lv→List D→Prop} (h:OH row ((q,i) :: p) k):ZS q i row (fun r k=>OH r p k) k:=h
def TZ (row:List D) (p:List (Nat×Nat)) (ls:List Lv) (er:List D):Prop:=dS ls er=row∧vp ls=p∧WU ls er
theorem EL {e:D} {ls:List Lv} (h1:row[q]? = some (.sl sz ds)) (h2:ds[i]? = some e) (hw:lN one e.row=e) (ho:Ab one e.row) (h:TZ e.row p ls er):
  TZ row ((q,i) :: p) (⟨row,q,sz,ds,i,one⟩ :: ls) er:=by
 obtain ⟨e1,e2,e3⟩:=h
 obtain ⟨hq,Yq⟩:=List.getElem?_eq_some_iff.1 h1
 obtain ⟨hi,hi2⟩:=List.getElem?_eq_some_iff.1 h2
 refine ⟨?_,by simp only [vp,List.map_cons] at e2 ⊢;rw [e2],hq,hi,by rw [e1];exact ho,e3⟩
 simp only [dS,e1,hw]
 have s1:ds.set i e=ds:=by rw [← hi2];exact List.set_getElem_self _
 rw [s1, ← Yq]
 exact List.set_getElem_self _
theorem DP:∀ {p:List (Nat×Nat)} {row:List D} {k:List Lv→List D→Prop},OH row p k→∃ ls er,TZ row p ls er∧k ls er
 | [],row,k,h=>⟨[],row,⟨rfl,rfl,trivial⟩,h⟩
 | (q,i) :: p,row,k,h=>by
  have h:=RF h
  unfold ZS at h
  obtain ⟨c,h1,h2⟩:=hJ h
  split at h2
  obtain ⟨e,h3,h4⟩:=yI h2
  split at h4
  obtain ⟨ls,Bi,h5,h6⟩:=DP (p:=p) (fM.1 h4)
  exact ⟨_,_,EL h1 h3 rfl (fun e=>by cases e) h5,h6⟩
  obtain ⟨ls,Bi,h5,h6⟩:=DP (p:=p) h4
  exact ⟨_,_,EL h1 h3 rfl (fun _=>⟨_,rfl,rfl⟩) h5,h6⟩
  obtain ⟨ls,Bi,h5,h6⟩:=DP (p:=p) h4
  exact ⟨_,_,EL h1 h3 rfl (fun _=>⟨_,rfl,rfl⟩) h5,h6⟩
  exact h4.elim
  exact h2.elim
theorem wf_set {j:Nat} {d:D} (hd:Mw d=true):∀ {ls:List Lv} {er:List D},WU ls er→WU ls (er.set j d)
 | [],er,_=>trivial
 | l :: ls,er,h=>by
  obtain ⟨h1,h2,h3,h4⟩:=h
  refine ⟨h1,h2,fun ho=> ?_,wf_set hd h4⟩
  obtain ⟨x,hx,hn⟩:=h3 ho
  cases ls with
  | nil=>
   simp only [dS] at hx ⊢
   subst hx
   cases j with
   | zero=>exact ⟨d,rfl,hd⟩
   | succ j=>exact ⟨x,rfl,hn⟩
  | cons l2 ls=>
   simp only [dS] at hx ⊢
   have hl:l2.row.length=1:=by have:=congrArg List.length hx;simpa using this
   match hr:l2.row,hl with
   | [y],_=>
    have hq:l2.q=0:=by have:=h4.1;rw [hr] at this;simpa using this
    rw [hq]
    exact ⟨_,rfl,rfl⟩
def Qf (b q1 i sz:Nat) (one:Bool) (ds:List D) (p:List (Nat×Nat)) (ls:List Lv) (j:Nat) (d:D) (s:Option (Nat×Nat)) (er:List D) (e:List En) (rs:Rs) (K:List D→Kn):Prop:=
 pz rs b fun m row=>fu (row.map (C.kill (dP b ((q1,i) :: p) j))) fun row=>Bu er j d fun Bi=>EK ls Bi fun r=>(match one with
  | true=>(match r with| []=>False|x :: _=>Bu row q1 (.own (.sl sz (ds.set i x))) fun row=>j4 b rs (mz rs b ((q1,i) :: p) j m row s) fun rs=>K Bi (.app (lM b ((q1,i) :: p) j) :: e) rs)
  | false=>Bu row q1 (.own (.sl sz (ds.set i (.st r)))) fun row=>j4 b rs (mz rs b ((q1,i) :: p) j m row s) fun rs=>K Bi (.app (lM b ((q1,i) :: p) j) :: e) rs)
structure Yr (p k:Prop):Prop where
 h:p
 c:k
theorem slf {p k:Prop} (c:k) (h:p:=by exact ⟨rfl,rfl,rfl⟩):Yr p k:=⟨h,c⟩
def Kb (b q1 i sz:Nat) (one:Bool) (ds:List D) (p:List (Nat×Nat)) (ls:List Lv) (j:Nat) (c:C) (er:List D) (e:List En) (rs:Rs) (K:List D→Kn):Prop:=match c with
 | .ro d=>(match d with
  | .v x=>Qf b q1 i sz one ds p ls j (.v x) none er e rs K
  | _=>False)
 | .ref s=>(match s with
  | ⟨sk,sp,sq⟩=>(match sp with
   | []=>BR (Nat.beq sk b) False (kE rs sk [] sq fun _ c=>match c with
    | .own d=>(match d with
     | .v x=>Qf b q1 i sz one ds p ls j (.v x) (some (sk,sq)) er e rs K
     | .sl s l=>Qf b q1 i sz one ds p ls j (.sl s l) (some (sk,sq)) er e rs K
     | _=>False)
    | _=>False)
   | x :: sp=>qD er j fun _=>Yr (sk=b∧x :: sp=(q1,i) :: p∧sq=j) (K er e rs)))
 | _=>False
def WV (b q1 i sz:Nat) (one:Bool) (ds:List D) (p:List (Nat×Nat)) (ls:List Lv) (f:List C→Nat→List D→List En→Rs→Kn→Prop) (cs:List C) (j:Nat) (er:List D) (e:List En) (rs:Rs) (K:Kn):Prop:=match cs with
 | []=>K e rs
 | c :: cs=>Kb b q1 i sz one ds p ls j c er e rs fun er e rs=>fu (cs.map (C.kill (dP b ((q1,i) :: p) j))) fun cs=>f cs (j + 1) er e rs K
def wV (b q1 i sz:Nat) (one:Bool) (ds:List D) (p:List (Nat×Nat)) (ls:List Lv) (n:Nat):List C→Nat→List D→List En→Rs→Kn→Prop:=
 @Nat.rec (fun _=>List C→Nat→List D→List En→Rs→Kn→Prop) (fun cs _ _ e rs K=>TH cs (K e rs)) (fun _ ih cs j er e rs K=>WV b q1 i sz one ds p ls ih cs j er e rs K) n
def WW (n b q1 i sz:Nat) (one:Bool) (ds:List D) (ls:List Lv) (er:List D) (e:List En) (rs:Rs):Prop:=
 ∃ m row ZT,(aR n e rs).root b=some ⟨m,row⟩∧row[q1]? = some (.own (.sl sz ZT))∧ZT[i]? = some (lN one (dS ls er))∧(∀ x,ZT.set i x=ds.set i x)∧i < ds.length∧Ab one (dS ls er)∧WU ls er
theorem T0 {pr:Pl→Bool} {row:List C} (h:row[q]? = some (.own d)):(row.map (C.kill pr))[q]? = some (.own d):=by rw [List.getElem?_map,h];rfl
theorem ZU {ls:List Lv} (hd:Mw d=true) (ho:Ab one (dS ls er)) (hw:WU ls er):Ab one (dS ls (er.set j d)):=by
 have h:=wf_set (j:=j) hd (ls:=⟨[.hole],0,0,[.hole],0,one⟩ :: ls) (er:=er) ⟨by simp,by simp,ho,hw⟩
 exact h.2.2.1
theorem WW.cellAt {n b q1 i sz j:Nat} {one:Bool} {ds er:List D} {p:List (Nat×Nat)} {ls:List Lv} {e:List En} {rs:Rs} (hp:vp ls=p) (hj:j < er.length)
  (hZ:WW n b q1 i sz one ds ls er e rs):∃ c0,(aR n e rs).cellAt ⟨b,(q1,i) :: p,j⟩=some c0:=by
 obtain ⟨m,row,ZT,z1,z2,z3,z4,z5,z6,z7⟩:=hZ
 have hra:∀ {ls:List Lv} {er:List D},WU ls er→rowAt (dS ls er) (vp ls)=some er:=fun {ls}=>by
  induction ls with
  | nil=>intro er _;rfl
  | cons l ls ih=>
   intro er hw
   obtain ⟨w1,w2,w3,w4⟩:=hw
   have e1:(l.row.set l.q (.sl l.sz (l.ds.set l.i (lN l.one (dS ls er)))))[l.q]? = some (.sl l.sz (l.ds.set l.i (lN l.one (dS ls er)))):=by simp [w1]
   have e2:(l.ds.set l.i (lN l.one (dS ls er)))[l.i]? = some (lN l.one (dS ls er)):=by simp [w2]
   show rowAt _ ((l.q,l.i) :: vp ls)=_
   simp only [rowAt,dS,e1,e2,Ac w3]
   exact ih w4
 refine ⟨.own er[j], ?_⟩
 simp only [St.cellAt,z1,z2,z3,Ac z6, ← hp,hra z7,List.getElem?_eq_getElem hj]
theorem EM {n b q1 i sz j:Nat} {one:Bool} {ds er:List D} {p:List (Nat×Nat)} {ls:List Lv} {d:D} {s:Option (Nat×Nat)} {e:List En} {rs:Rs} {K:List D→Kn} (hp:vp ls=p) (hd:Mw d=true) (hs:∀ x y,s=some (x,y)→x ≠ b)
  (hZ:WW n b q1 i sz one ds ls er e rs) (h:Qf b q1 i sz one ds p ls j d s er e rs K):
  ∃ m row row' fq,(aR n e rs).root b=some ⟨m,row⟩∧(∃ c0,(aR n e rs).cellAt ⟨b,(q1,i) :: p,j⟩=some c0)∧setRow (row.map (C.kill (dP b ((q1,i) :: p) j))) ((q1,i) :: p) j (.own d)=some row'∧
   (aR n e rs).wrote b ((q1,i) :: p) j m row' s=aR n (.app (lM b ((q1,i) :: p) j) :: e) fq∧K (er.set j d) (.app (lM b ((q1,i) :: p) j) :: e) fq∧
   WW n b q1 i sz one ds ls (er.set j d) (.app (lM b ((q1,i) :: p) j) :: e) fq:=by
 obtain ⟨m,row,ZT,z1,z2,z3,z4,z5,z6,z7⟩:=hZ
 obtain ⟨m',sK,h1,h2⟩:=ir (n:=n) (e:=e) h
 have hmr:(⟨m,row⟩:Rt)=⟨m',sK⟩:=Option.some.inj (z1.symm.trans h1)
 cases hmr
 obtain ⟨hj,h3⟩:=lZ (dw.1 h2)
 have h4:=Cu h3
 have ZV:=ZU (j:=j) hd z6 z7
 have hsr:setRow (row.map (C.kill (dP b ((q1,i) :: p) j))) ((q1,i) :: p) j (.own d)=some ((row.map (C.kill (dP b ((q1,i) :: p) j))).set q1 (.own (.sl sz (ds.set i (lN one (dS ls (er.set j d))))))):=by
  simp only [setRow,T0 z2,z3,Ac z6, ← hp,xV z7 (wf_set hd z7) hj,Option.map_some,EJ z6 ZV,z4]
 have SG:q1 < row.length:=(List.getElem?_eq_some_iff.1 z2).1
 have hcell:∃ c0,(aR n e rs).cellAt ⟨b,(q1,i) :: p,j⟩=some c0:=WW.cellAt hp hj ⟨m,row,ZT,z1,z2,z3,z4,z5,z6,z7⟩
 have fin:∀ {row':List C},(j4 b rs (mz rs b ((q1,i) :: p) j m row' s) fun rs=>K (er.set j d) (.app (lM b ((q1,i) :: p) j) :: e) rs)→K (er.set j d) (.app (lM b ((q1,i) :: p) j) :: e) (mz rs b ((q1,i) :: p) j m row' s):=fun hn=>gz hn
 have hK:∃ fq,(aR n e rs).wrote b ((q1,i) :: p) j m ((row.map (C.kill (dP b ((q1,i) :: p) j))).set q1 (.own (.sl sz (ds.set i (lN one (dS ls (er.set j d))))))) s=aR n (.app (lM b ((q1,i) :: p) j) :: e) fq∧K (er.set j d) (.app (lM b ((q1,i) :: p) j) :: e) fq:=by
  cases one with
  | true=>
   obtain ⟨x,hx,_⟩:=ZV rfl
   simp only [hx] at h4
   obtain ⟨_,h5⟩:=lZ h4
   refine ⟨_,zZ, ?_⟩
   have:=gz h5
   rw [hx]
   exact this
  | false=>
   simp only at h4
   obtain ⟨_,h5⟩:=lZ h4
   exact ⟨_,zZ,gz h5⟩
 obtain ⟨fq,hw,hk⟩:=hK
 have hgen:∀ (row':List C),((aR n e rs).wrote b ((q1,i) :: p) j m row' s).root b=some ⟨m,row'⟩:=by
  intro row'
  clear hw h h2 h3
  have base:(((aR n e rs).kill (dP b ((q1,i) :: p) j) (u7 b ((q1,i) :: p) j)).cq b ⟨m,row'⟩).root b=some ⟨m,row'⟩:=by simp [St.cq,St.root]
  cases s with
  | none=>exact base
  | some s=>
   obtain ⟨k1,q1'⟩:=s
   have hne:=hs k1 q1' rfl
   simp only [St.wrote]
   split
   exact base
   simp only [St.cq,St.root] at base ⊢
   rw [List.find?_cons_of_neg (by simpa using hne),List.filter_cons,if_pos (by simpa using Ne.symm hne)]
   simp
 refine ⟨m,row,_,fq,z1,hcell,hsr,hw,hk,m,_,_,by rw [← hw];exact hgen _,by simp [SG];rfl,by simp [z5],fun x=>by simp,z5,ZV,wf_set hd z7⟩
theorem RH {ls:List Lv} {c:C} {e:List En} {K:List D→Kn} (hp:vp ls=p) 
  (hZ:WW n b q1 i sz one ds ls er e rs) (h:Kb b q1 i sz one ds p ls j c er e rs K):
  ∃ d e' fq,(∃ c0,(aR n e rs).cellAt ⟨b,(q1,i) :: p,j⟩=some c0)∧(aR n e rs).dD ⟨b,(q1,i) :: p,j⟩ c=some (aR n e' fq)∧K (er.set j d) e' fq∧WW n b q1 i sz one ds ls (er.set j d) e' fq:=by
 unfold Kb at h
 split at h
 split at h
 obtain ⟨m,row,row',fq,h1,h2,h3,h4,h5,h6⟩:=EM hp rfl (fun x y e=>by cases e) hZ h
 refine ⟨_,_,fq,h2, ?_,h5,h6⟩
 simp only [St.dD,h1,h3,Option.map_some,h4]
 exact h.elim
 rename_i s
 obtain ⟨sk,sp,sq⟩:=s
 simp only at h
 split at h
 obtain ⟨g1,g2⟩:=pE h
 have hne:sk ≠ b:=fun e=>by subst e;simp at g1
 obtain ⟨_,c',g3,_,g4⟩:=eU (n:=n) (e:=e) g2
 split at g4
 split at g4
 obtain ⟨m,row,row',fq,h1,h2,h3,h4,h5,h6⟩:=EM hp rfl (fun x y e=>by cases e;exact hne) hZ g4
 refine ⟨_,_,fq,h2, ?_,h5,h6⟩
 simp [St.dD,h1,hne,g3,h3,h4]
 obtain ⟨m,row,row',fq,h1,h2,h3,h4,h5,h6⟩:=EM hp rfl (fun x y e=>by cases e;exact hne) hZ g4
 refine ⟨_,_,fq,h2, ?_,h5,h6⟩
 simp [St.dD,h1,hne,g3,h3,h4]
 exact g4.elim
 exact g4.elim
 obtain ⟨x0,f1,f2⟩:=hJ h
 obtain ⟨⟨rfl,f3,rfl⟩,f4⟩:=f2
 obtain ⟨fl,fe⟩:=List.getElem?_eq_some_iff.1 f1
 obtain ⟨c0,f5⟩:=WW.cellAt hp fl hZ
 have f6:er.set sq x0=er:=by rw [← fe];exact List.set_getElem_self _
 refine ⟨x0,e,rs,⟨c0,f5⟩, ?_,by rw [f6];exact f4,by rw [f6];exact hZ⟩
 obtain ⟨m,row,ZT,z1,_⟩:=hZ
 rw [f3]
 simp [St.dD,z1]
 exact h.elim
theorem EN {n b q1 i sz:Nat} {one:Bool} {ds:List D} {p:List (Nat×Nat)} {ls:List Lv} (hp:vp ls=p):∀ {m:Nat} {cs:List C} {j:Nat} {er:List D} {e:List En} {rs:Rs} {K:Kn},WW n b q1 i sz one ds ls er e rs→
  wV b q1 i sz one ds p ls m cs j er e rs K→∃ bD,St.storeAll b ((q1,i) :: p) cs id j (aR n e rs)=some bD∧Lg n K bD
 | m,[],j,er,e,rs,K,hZ,h=>⟨_,rfl, .mk (by cases m <;> exact h)⟩
 | 0,_ :: _,j,er,e,rs,K,hZ,h=>h.elim
 | m + 1,c :: cs,j,er,e,rs,K,hZ,h=>by
  have h:Kb b q1 i sz one ds p ls j c er e rs fun er e rs=>fu (cs.map (C.kill (dP b ((q1,i) :: p) j))) fun cs=>wV b q1 i sz one ds p ls m cs (j + 1) er e rs K:=h
  obtain ⟨d,e',fq,⟨c0,h1⟩,h2,h3,h4⟩:=RH hp hZ h
  obtain ⟨wB,h5,h6⟩:=EN hp (m:=m) (cs:=cs.map (C.kill (dP b ((q1,i) :: p) j))) h4 (dw.1 h3)
  refine ⟨wB, ?_,h6⟩
  simp only [St.storeAll,h1,id_eq,h2]
  rw [tN] at h5
  exact h5
def ZW (b q1 i:Nat) (p:List (Nat×Nat)) (cs:List C) (q:Nat) (e:List En) (rs:Rs) (K:Kn):Prop:=pz rs b fun _ row=>qD row q1 fun c=>match c with
 | .own d=>(match d with
  | .sl sz ds=>WG ds i fun el=>(match el with
   | .st er=>kv er fun er=>OH er p fun ls Bi=>wV b q1 i sz false ds p ls 40 cs q Bi e rs K
   | .v x=>OH [.v x] p fun ls Bi=>wV b q1 i sz true ds p ls 40 cs q Bi e rs K
   | .sl s l=>OH [.sl s l] p fun ls Bi=>wV b q1 i sz true ds p ls 40 cs q Bi e rs K
   | .hole=>False)
  | _=>False)
 | _=>False
theorem Qg {cs:List C} {e:List En} {K:Kn} (h:ZW b q1 i p cs q e rs K):∃ bD,St.storeAll b ((q1,i) :: p) cs id q (aR n e rs)=some bD∧Lg n K bD:=by
 obtain ⟨m,row,h1,h2⟩:=ir (n:=n) (e:=e) h
 obtain ⟨c,h3,h4⟩:=hJ h2
 split at h4
 split at h4
 rename_i sz ds
 obtain ⟨el,h5,h6⟩:=yI h4
 obtain ⟨hi,hi2⟩:=List.getElem?_eq_some_iff.1 h5
 have fin:∀ {one:Bool},lN one el.row=el→Ab one el.row→(OH el.row p fun ls Bi=>wV b q1 i sz one ds p ls 40 cs q Bi e rs K)→∃ bD,St.storeAll b ((q1,i) :: p) cs id q (aR n e rs)=some bD∧Lg n K bD:=fun hw ho hz=>by
  obtain ⟨ls,er,⟨z1,z2,z3⟩,z4⟩:=DP hz
  exact EN z2 ⟨m,row,ds,h1,h3,by rw [z1,hw];exact h5,fun x=>rfl,hi,by rw [z1];exact ho,z3⟩ z4
 split at h6
 exact fin rfl (fun e=>by cases e) (fM.1 h6)
 exact fin rfl (fun _=>⟨_,rfl,rfl⟩) h6
 exact fin rfl (fun _=>⟨_,rfl,rfl⟩) h6
 exact h6.elim
 exact h4.elim
 exact h4.elim
end
section
variable {b k q:Nat} {x y:Operand} {t t2:TypeId}
section
variable {P:Program} {w0:World} {g0:Gh} {n:Nat} {e:List En} {rs:Rs} {o:Oper} {K:Kn}
def Mx (rs:Rs) (b:Nat) (k:Nat→List D→Prop):Prop:=pz rs b fun m row=>BR m False (match row with
 | []=>False
 | c :: l=>(match l with
  | []=>(match c with
   | .own d=>(match d with| .sl sz ds=>k sz ds|_=>False)
   | _=>False)
  | _=>False))
theorem Ad {k:Nat→List D→Prop} (h:Mx rs b k):∃ sz ds,(aR n e rs).root b=some ⟨false,[.own (.sl sz ds)]⟩∧k sz ds:=by
 obtain ⟨m,row,h1,h2⟩:=ir (n:=n) (e:=e) h
 obtain ⟨rfl,h3⟩:=pE h2
 split at h3
 exact h3.elim
 split at h3
 split at h3
 split at h3
 exact ⟨_,_,h1,h3⟩
 exact h3.elim
 exact h3.elim
 exact h3.elim
def flatW (P:Program) (t:TypeId) (k:Nat→Bool→Prop):Prop:=IG P t fun i z row=>oneOf i.size small fun sz=>BR (Nat.ble i.bytes 1048576 && Nat.beq z.cells.size sz) (k sz (ZP row)) False
def EO (P:Program) (n:Nat) (k b:Nat) (y:Operand) (t t2:TypeId) (e:List En) (rs:Rs) (K:Kn):Prop:=Mx rs b fun sz ds=>match P.underlying t with
 | some (.slice el)=>(match P.underlying t2 with
  | some (.slice _)=>flatW P el fun s fl=>BR (Nat.beq s sz) (BR fl
   (fT n e sz y fun tv=>EB rs tv fun sz' ns=>BR (Nat.beq sz' sz) (ZN ds ns (J6 [k,b] k sz (ds ++ ns) e rs K)) False)
   (fT n e 0 y fun tv=>match tv with
    | .one (.c (.ref s))=>(match s with
     | ⟨k2,p,q⟩=>(match p,q with
      | [],0=>BR (Nat.beq k2 b) False (Mx rs k2 fun sz' ns=>BR (Nat.beq sz' sz) (ZO ds ns (J6 [k,b,k2] k sz (ds ++ ns) e rs K)) False)
      | _,_=>False))
    | _=>False)) False
  | _=>False)
 | _=>False
theorem Cv (ho:o.op= .call { callee:= .builtin .append,args:= #[x,y],argTypes:= #[t,t2] }) (hd:o.dst=some k) (hx:T.cy 0 (aR n e rs) x=some (.one (.c (.ref ⟨b,[],0⟩)))) 
  (h:EO P n k b y t t2 e rs K):fX P w0 g0 o (aR n e rs) (Lg n K):=by
 obtain ⟨sz,ds,h1,h2⟩:=Ad (n:=n) (e:=e) h
 split at h2
 rename_i el hu
 split at h2
 rename_i el2 Ss
 obtain ⟨i,z,row,h3,h4,h5,h6,h7,h8⟩:=z_ h2
 obtain ⟨h9,kU⟩:=bG (mX h8)
 simp only [Bool.and_eq_true] at h9
 have h92:=Nat.eq_of_beq_eq_true h9.2
 obtain ⟨oW,h12⟩:=bG kU
 have oW:=Nat.eq_of_beq_eq_true oW
 subst oW
 rcases fY.1 h12 with ⟨_,pL⟩|⟨_,pL⟩
 obtain ⟨tv,vc,sW⟩:=bR (rs:=rs) pL
 obtain ⟨sz',ns,II,LJ⟩:=sV (n:=n) (e:=e) sW
 obtain ⟨RE,Sy⟩:=bG LJ
 have RE:=Nat.eq_of_beq_eq_true RE
 subst RE
 obtain ⟨TR,WT⟩:=wO (n:=n) Sy.c
 exact .Wq ho hd hx vc h1 II Sy.plain hu Ss h3 h4 rfl h9.1 h92 Sy.len WT TR
 obtain ⟨tv,vc,sW⟩:=bR (rs:=rs) pL
 split at sW
 rename_i s
 obtain ⟨k2,p,q⟩:=s
 simp only at sW
 split at sW
 obtain ⟨II,LJ⟩:=pE sW
 obtain ⟨sz',ns,RE,Sy⟩:=Ad (n:=n) (e:=e) LJ
 obtain ⟨TR,WT⟩:=bG Sy
 have TR:=Nat.eq_of_beq_eq_true TR
 subst TR
 obtain ⟨h22,h23⟩:=wO (n:=n) WT.c
 exact .Tb ho hd hx vc h1 RE (fun e=>by subst e;simp at II) WT.nh hu Ss h3 h4 rfl h9.1 h92 WT.len h23 h22
 exact sW.elim
 exact sW.elim
 exact h2.elim
 exact h2.elim
abbrev tmpK:Nat:=999998
def Qh (P:Program) (n:Nat) (k:Nat) (x y:Operand) (t t2:TypeId) (e:List En) (rs:Rs) (K:Kn):Prop:=fT n e 0 x fun a=>match a with
 | .one (.c (.ref s))=>(match s with
  | ⟨b,p,q⟩=>pz rs b fun m row=>BR (!m && Nat.beq row.length 1 && p.isEmpty && Nat.beq q 0) (EO P n k b y t t2 e rs K) (TJ b p q tmpK e rs fun e rs=>EO P n k tmpK y t t2 e rs K))
 | _=>False
theorem RI {st bD:St} {L:Nat} {p:List (Nat×Nat)} (hx:T.cy 0 st x=some (.one (.c (.ref ⟨b,p,q⟩)))) (hL:b ≠ L) (ht:st.takeN b p q L=some bD):T.cy 0 bD x=some (.one (.c (.ref ⟨L,[],0⟩))):=by
 cases x with
 | const v=>
  simp only [cy] at hx
  split at hx
  simp at hx
  split at hx <;> simp at hx
 | func f=>simp [cy] at hx
 | global g=>simp [cy] at hx
 | tmp i=>
  have hx':st.tmps[i]? = some (.one (.c (.ref ⟨b,p,q⟩))):=hx
  simp only [St.takeN] at ht
  split at ht
  rename_i r hr
  split at ht
  rename_i sz ds hc
  rw [Option.map_eq_some_iff] at ht
  obtain ⟨row',h1,h2⟩:=ht
  subst h2
  show ((((st.fresh L ⟨false,[.own (.sl sz ds)]⟩).cq b ⟨r.mem,row'⟩).tmps.map (Ym b p q L))[i]?)=_
  have h3:((st.fresh L ⟨false,[.own (.sl sz ds)]⟩).cq b ⟨r.mem,row'⟩).tmps=st.tmps.map (TS.kill (fun pl=>pl.k == L) (fun pl=>pl.k == L)):=rfl
  have h4:(b == L)=false:=by simpa using hL
  rw [h3,List.map_map,List.getElem?_map,hx']
  simp [TS.kill,TV.kill,C.kill,h4,Ym,reC]
  cases ht
  cases ht
theorem OI (ho:o.op= .call { callee:= .builtin .append,args:= #[x,y],argTypes:= #[t,t2] }) (hd:o.dst=some k) 
  (h:Qh P n k x y t t2 e rs K):fX P w0 g0 o (aR n e rs) (Lg n K):=by
 obtain ⟨a,h1,h2⟩:=bR (rs:=rs) h
 split at h2
 rename_i s
 obtain ⟨b,p,q⟩:=s
 simp only at h2
 obtain ⟨m,row,h3,h4⟩:=ir (n:=n) (e:=e) h2
 rcases fY.1 h4 with ⟨h5,h6⟩|⟨_,h6⟩
 simp only [Bool.and_eq_true] at h5
 have h7:p=[]:=by simpa using h5.1.2
 have h8:=Nat.eq_of_beq_eq_true h5.2
 subst h7;subst h8
 exact Cv ho hd h1 h6
 obtain ⟨h7,bD,h8,e',fq,h9,kU⟩:=Ms (n:=n) h6
 have oW:=RI h1 h7 h8
 subst h9
 exact .takeN h8 h7 (by decide) (Cv ho hd oW kU)
 exact h2.elim
def EP:List D→(List C→Prop)→Prop
 | [],k=>k []
 | d :: l,k=>match d with
  | .sl s ds=>EP l fun l=>k (.own (.sl s ds) :: l)
  | .v _=>EP l k
  | .st _=>EP l k
  | .hole=>EP l k
theorem oe:∀ {l:List D} {k:List C→Prop},EP l k→k ((l.filter xL).map C.own)
 | [],k,h=>h
 | d :: l,k,h=>by
  cases d with
  | sl s ds=>exact oe (l:=l) h
  | v x=>exact oe (l:=l) h
  | st x=>exact oe (l:=l) h
  | hole=>exact oe (l:=l) h
def Ys (parts:List (Nat×Operand)):Nat→List (Nat×Nat)→List D→Bool
 | _,[],_=>false
 | i,(off,s) :: pl,row=>(!(parts.any fun p=>Nat.beq p.1 i) && !(ZP ((row.drop off).take s))) || Ys parts (i + 1) pl row
def T1 (P:Program) (n:Nat) (k:Nat) (t:TypeId) (parts:List (Nat×Operand)) (e:List En) (rs:Rs) (K:Kn):Prop:=DN P t fun row pl=>BR (Ys parts 0 pl row)
 (EP row fun cs=>sc k false cs e rs fun e rs=>yJ n e parts fun pc=>Mo pl (uD k 0 row) pc fun cs=>K (.set k (.one (.agg cs)) :: e) rs)
 (yJ n e parts fun pc=>Mo pl (row.map C.ro) pc fun cs=>K (.set k (.one (.agg cs)) :: e) rs)
theorem RJ {parts:Array (Nat×Operand)} (ho:o.op= .build t parts) (hd:o.dst=some k) (h:T1 P n k t parts.toList e rs K):fX P w0 g0 o (aR n e rs) (Lg n K):=by
 obtain ⟨fs,it,z,row,pl,h1,h2,h3,h4,h5,h6,h7,h8⟩:=EC h
 rcases fY.1 h8 with ⟨_,h9⟩|⟨_,h9⟩
 obtain ⟨kU,e',fq,oW,h12⟩:=wN (n:=n) (oe h9)
 obtain ⟨pc,pL,vc⟩:=p6 (rs:=fq) h12
 obtain ⟨cs,sW,II⟩:=ED vc
 refine fX.Zg (parts:=parts.toList) (by rw [ho]) hd h1 h2 h3 h4 h5 h6 h7 rfl (by rw [oW];exact pL) sW ?_ kU
 rw [oW]
 exact .put II
 obtain ⟨pc,pL,vc⟩:=p6 (rs:=rs) h9
 obtain ⟨cs,sW,II⟩:=ED vc
 refine .val (dQ.build (parts:=parts.toList) (by rw [ho]) pL h1 h2 h3 h4 h5 h6 h7 sW) ?_
 rw [hd]
 exact .put II
def lB (dst:Option Nat) (t:TS) (e:List En) (rs:Rs) (K:Kn):Prop:=match dst with
 | some i=>K (.set i t :: e) rs
 | none=>K e rs
theorem fR {dst:Option Nat} {t:TS} (h:lB dst t e rs K):Lg n K ((aR n e rs).put dst t):=by
 cases dst with
 | none=>exact .mk h
 | some i=>exact .put h
noncomputable def Yt (rs:Rs):Bool:= @List.rec (Nat×Rt) (fun _=>Bool) false (fun x _ ih=> @Bool.rec (fun _=>Bool) ih true (Nat.beq x.1 999997)) rs
def EQ (b q:Nat) (c:C) (e:List En) (rs:Rs) (K:Kn):Prop:=match c with
 | .ref s=>pz rs b fun m row=>fu (row.map (C.kill (dP b [] q))) fun row=>BR (dP b [] q s) False (mZ row [] q (.ref s) fun row=>j4 b rs (mz rs b [] q m row none) fun rs=>K (.app (lM b [] q) :: e) rs)
 | .ro d=>tM b [] q (.ro d) e rs K
 | .own _=>False
 | .dead=>False
theorem My {n:Nat} {c:C} {e:List En} {rs:Rs} {K:Kn} (h:EQ b q c e rs K):∃ bD,(aR n e rs).mW ⟨b,[],q⟩ c=some bD∧Lg n K bD:=by
 cases c with
 | ref s=>
  obtain ⟨m,row,h1,h2⟩:=ir (n:=n) (e:=e) h
  obtain ⟨h4,h5⟩:=pE (dw.1 h2)
  obtain ⟨row',h6,h7⟩:=jO h5
  refine ⟨_,by simp [St.mW,h1,h4,h6];rfl, ?_⟩
  rw [zZ]
  exact .mk (gz h7)
 | ro d=>exact qE h
 | own d=>exact h.elim
 | dead=>exact h.elim
def T2 (b:Nat) (f:List C→Nat→List En→Rs→Kn→Prop) (cs:List C) (q:Nat) (e:List En) (rs:Rs) (K:Kn):Prop:=match cs with
 | []=>K e rs
 | c :: cs=>kE rs b [] q fun _ _=>EQ b q c e rs fun e rs=>fu (cs.map (C.kill (dP b [] q))) fun cs=>f cs (q + 1) e rs K
def ER (b:Nat) (n:Nat):List C→Nat→List En→Rs→Kn→Prop:=
 @Nat.rec (fun _=>List C→Nat→List En→Rs→Kn→Prop) (fun cs _ e rs K=>TH cs (K e rs)) (fun _ ih cs q e rs K=>T2 b ih cs q e rs K) n
theorem xW {b:Nat} {g:C→C}:∀ {cs:List C} {f:C→C} {q:Nat} {st:St},St.hY b (cs.map g) f q st=St.hY b cs (fun c=>f (g c)) q st
 | [],f,q,st=>rfl
 | c :: cs,f,q,st=>by
  simp only [St.hY,List.map_cons]
  cases st.cellAt ⟨b,[],q⟩ with
  | none=>rfl
  | some c0=>
   simp only
   cases st.mW ⟨b,[],q⟩ (f (g c)) with
   | none=>rfl
   | some bD=>
    simp only
    rw [xW (cs:=cs)]
theorem Cw {n b:Nat}:∀ {m:Nat} {cs:List C} {q:Nat} {e:List En} {rs:Rs} {K:Kn},ER b m cs q e rs K→∃ bD,St.hY b cs id q (aR n e rs)=some bD∧Lg n K bD
 | m,[],q,e,rs,K,h=>⟨_,rfl, .mk (by cases m <;> exact h)⟩
 | 0,_ :: _,q,e,rs,K,h=>h.elim
 | m + 1,c :: cs,q,e,rs,K,h=>by
  have h:kE rs b [] q fun _ _=>EQ b q c e rs fun e rs=>fu (cs.map (C.kill (dP b [] q))) fun cs=>ER b m cs (q + 1) e rs K:=h
  obtain ⟨_,c0,h1,_,h2⟩:=eU (n:=n) (e:=e) h
  obtain ⟨bD,h3,e',fq,h4,h5⟩:=My (n:=n) h2
  subst h4
  obtain ⟨wB,h6,h7⟩:=Cw (n:=n) (m:=m) (cs:=cs.map (C.kill (dP b [] q))) (dw.1 h5)
  refine ⟨wB, ?_,h7⟩
  simp only [St.hY,h1,id_eq,h3]
  rw [xW] at h6
  exact h6
def T3 (P:Program) (n:Nat) (dst:Option Nat) (t:TypeId) (x y:Operand) (e:List En) (rs:Rs) (K:Kn):Prop:=fT n e 0 x fun a=>match a with
 | .one (.ptr pl)=>(match pl with
  | ⟨b,p,q⟩=>rF P t fun s=>TM P t fun z=>fT n e z y fun v=>match v with
   | .one (.c c)=>BR (Nat.beq s 1) (match p with
    | []=>kE rs b [] q fun m _=>BR m (tM b [] q c e rs fun e rs=>lB dst (.one .dead) e rs K) False
    | x :: p=>(match x with|(q1,i)=>ZW b q1 i p [c] q e rs fun e rs=>lB dst (.one .dead) e rs K)) False
   | .one (.agg cs)=>BR (Nat.beq cs.length s) (match p with
    | []=>kE rs b [] q fun m _=>BR m (BR (Yt rs) (ER b 40 cs q e rs fun e rs=>lB dst (.one .dead) e rs K) (J8 b [] 40 cs q e rs fun e rs=>lB dst (.one .dead) e rs K)) False
    | x :: p=>(match x with|(q1,i)=>ZW b q1 i p cs q e rs fun e rs=>lB dst (.one .dead) e rs K)) False
   | _=>False)
 | _=>False
theorem RK (ho:o.op= .store t x y) (h:T3 P n o.dst t x y e rs K):fX P w0 g0 o (aR n e rs) (Lg n K):=by
 obtain ⟨a,h1,h2⟩:=bR (rs:=rs) h
 split at h2
 rename_i pl
 obtain ⟨b,p,q⟩:=pl
 simp only at h2
 obtain ⟨s,h3,h4⟩:=j5 h2
 obtain ⟨z,h4⟩:=J9 h4
 obtain ⟨v,h5,h6⟩:=bR (rs:=rs) h4
 split at h6
 obtain ⟨h7,h8⟩:=bG h6
 have h7:=Nat.eq_of_beq_eq_true h7
 subst h7
 cases p with
 | nil=>
  obtain ⟨m,c0,h9,kU,oW⟩:=eU (n:=n) (e:=e) h8
  obtain ⟨rfl,h12⟩:=bG oW
  obtain ⟨bD,pL,e',fq,vc,sW⟩:=qE (n:=n) h12
  subst vc
  exact .store ho h1 h5 h3 h9 kU pL (fR sW)
 | cons x p=>
  obtain ⟨q1,i⟩:=x
  obtain ⟨bD,pL,e',fq,vc,sW⟩:=Qg (n:=n) h8
  subst vc
  simp only [St.storeAll,id_eq] at pL
  split at pL
  rename_i c0 hc0
  split at pL
  rename_i wB hst
  cases pL
  exact .store ho h1 h5 h3 hc0 rfl hst (fR sW)
  cases pL
  cases pL
 obtain ⟨h7,h8⟩:=bG h6
 have h7:=Nat.eq_of_beq_eq_true h7
 cases p with
 | nil=>
  obtain ⟨m,c0,h9,kU,oW⟩:=eU (n:=n) (e:=e) h8
  obtain ⟨rfl,h12⟩:=bG oW
  cases hmk:Yt rs with
  | true=>
   rw [hmk] at h12
   obtain ⟨bD,pL,e',fq,vc,sW⟩:=Cw (n:=n) h12
   subst vc
   exact .Rx ho rfl h1 (Aa h5) h3 h7 kU pL (fR sW)
  | false=>
   rw [hmk] at h12
   obtain ⟨bD,pL,e',fq,vc,sW⟩:=EE (n:=n) h12
   subst vc
   exact .LQ ho h1 (Aa h5) h3 h7 kU pL (fR sW)
 | cons x p=>
  obtain ⟨q1,i⟩:=x
  obtain ⟨bD,pL,e',fq,vc,sW⟩:=Qg (n:=n) h8
  subst vc
  exact .LQ ho h1 (Aa h5) h3 h7 rfl pL (fR sW)
 exact h6.elim
 exact h2.elim
end
end
end Go.Proofs.YtdliggkohdnipaaGreat.T
