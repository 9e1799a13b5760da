import Derived.Test.YtdliggkohdnipaaGreatReq
set_option linter.unusedVariables false
set_option linter.unusedSimpArgs false
namespace Go.Proofs.YtdliggkohdnipaaGreat.T
open Go
section
variable {one:Bool} {d:D} {p:List (Nat×Nat)} {ds er r row:List D} {b i j n q q1 sz:Nat} {rs:Rs}
structure Lv where
 row:List D
 q:Nat
 sz:Nat
 ds:List D
 i:Nat
 one:Bool
def nc (one:Bool) (r:List D):D:=if one then r.headD .hole else .st r
def eC:List Lv→List D→List D
 | [],er=>er
 | l :: ls,er=>l.row.set l.q (.sl l.sz (l.ds.set l.i (nc l.one (eC ls er))))
def N0:D→Bool
 | .st _=>false
 | _=>true
def BA (one:Bool) (r:List D):Prop:=one=true→∃ x,r=[x]∧N0 x=true
def Yu:List Lv→List D→Prop
 | [],_=>True
 | l :: ls,er=>l.q < l.row.length∧l.i < l.ds.length∧BA l.one (eC ls er)∧Yu ls er
theorem LM {x:D} (h:N0 x=true):x.row=[x]:=by cases x <;> first|rfl|cases h
theorem BB (h:BA one r):(nc one r).row=r:=by
 unfold nc
 cases one with
 | false=>rfl
 | true=>
  obtain ⟨x,rfl,hx⟩:=h rfl
  exact LM hx
theorem Gj {r':List D} (h:BA one r) (h':BA one r'):(nc one r).rf r'=nc one r':=by
 unfold nc
 cases one with
 | false=>rfl
 | true=>
  obtain ⟨x,rfl,hx⟩:=h rfl
  obtain ⟨y,rfl,hy⟩:=h' rfl
  cases x <;> first|rfl|cases hx
def xo (ls:List Lv):List (Nat×Nat):=ls.map fun l=>(l.q,l.i)
theorem zL {j:Nat} {d:D}:∀ {ls:List Lv} {er:List D},Yu ls er→Yu ls (er.set j d)→j < er.length→setAt (eC ls er) (xo ls) j d=some (eC ls (er.set j d))
 | [],er,_,_,hj=>by simp [eC,xo,setAt,hj]
 | l :: ls,er,h,h',hj=>by
  obtain ⟨h1,h2,h3,h4⟩:=h
  obtain ⟨_,_,h3',h4'⟩:=h'
  have ih:=zL h4 h4' hj
  have e1:(l.row.set l.q (.sl l.sz (l.ds.set l.i (nc l.one (eC ls er)))))[l.q]? = some (.sl l.sz (l.ds.set l.i (nc l.one (eC ls er)))):=by simp [h1]
  have e2:(l.ds.set l.i (nc l.one (eC ls er)))[l.i]? = some (nc l.one (eC ls er)):=by simp [h2]
  show setAt _ ((l.q,l.i) :: xo ls) j d=_
  simp only [setAt,eC,e1,e2,BB h3,ih,Option.map_some,cS,Gj h3 h3']
def Gk:List Lv→List D→(List D→Prop)→Prop
 | [],er,k=>k er
 | l :: ls,er,k=>match l with
  | ⟨row,q,sz,ds,i,one⟩=>Gk ls er fun r=>(match one with
   | true=>(match r with
    | []=>False
    | x :: _=>CL row q (.sl sz (ds.set i x)) k)
   | false=>CL row q (.sl sz (ds.set i (.st r))) k)
theorem DR:∀ {ls:List Lv} {er:List D} {k:List D→Prop},Gk ls er k→k (eC ls er)
 | [],er,k,h=>h
 | l :: ls,er,k,h=>by
  obtain ⟨row,q,sz,ds,i,one⟩:=l
  have h1:=DR (ls:=ls) h
  cases one with
  | true=>
   simp only [eC,nc,if_true]
   simp only at h1
   split at h1
   exact h1.elim
   rename_i x l hr
   rw [hr]
   exact (ny h1).2
  | false=>
   simp only [eC,nc]
   exact (ny h1).2
def zipS (q i:Nat) (row:List D) (f:List D→(List Lv→List D→Prop)→Prop) (k:List Lv→List D→Prop):Prop:=sg row q fun c=>match c with
 | .sl sz ds=>Yj ds i fun e=>(match e with
  | .st er=>lG er fun er=>f er fun ls Cz=>k (⟨row,q,sz,ds,i,false⟩ :: ls) Cz
  | .v x=>f [.v x] fun ls Cz=>k (⟨row,q,sz,ds,i,true⟩ :: ls) Cz
  | .sl s l=>f [.sl s l] fun ls Cz=>k (⟨row,q,sz,ds,i,true⟩ :: ls) Cz
  | .hole=>False)
 | _=>False
def Qi (row:List D) (p:List (Nat×Nat)) (k:List Lv→List D→Prop):Prop:=
 @List.rec (Nat×Nat) (fun _=>List D→(List Lv→List D→Prop)→Prop) (fun row k=>k [] row) (fun qi _ ih row k=>match qi with
  | (q,i)=>zipS q i row (fun r k=>ih r k) k) p row k
theorem Tn {k:List Lv→List D→Prop} (h:Qi row ((q,i) :: p) k):zipS q i row (fun r k=>Qi r p k) k:=h
def VK (row:List D) (p:List (Nat×Nat)) (ls:List Lv) (er:List D):Prop:=eC ls er=row∧xo ls=p∧Yu ls er
theorem Gl {e:D} {ls:List Lv} (h1:row[q]? = some (.sl sz ds)) (h2:ds[i]? = some e) (hw:nc one e.row=e) (ho:BA one e.row) (h:VK e.row p ls er):
  VK row ((q,i) :: p) (⟨row,q,sz,ds,i,one⟩ :: ls) er:=by
 obtain ⟨e1,e2,e3⟩:=h
 obtain ⟨hq,Yv⟩:=aM.1 h1
 obtain ⟨hi,hi2⟩:=aM.1 h2
 refine ⟨?_,by simp only [xo,List.map_cons] at e2 ⊢;rw [e2],hq,hi,by rw [e1];exact ho,e3⟩
 simp only [eC,e1,hw]
 have s1:ds.set i e=ds:=by rw [← hi2];exact List.set_getElem_self _
 rw [s1, ← Yv]
 exact List.set_getElem_self _
theorem Fp:∀ {p:List (Nat×Nat)} {row:List D} {k:List Lv→List D→Prop},Qi row p k→∃ ls er,VK row p ls er∧k ls er
 | [],row,k,h=>⟨[],row,⟨rfl,rfl,trivial⟩,h⟩
 | (q,i) :: p,row,k,h=>by
  have h:=Tn h
  unfold zipS at h
  obtain ⟨c,h1,h2⟩:=iK h
  split at h2
  obtain ⟨e,h3,h4⟩:=Aw h2
  split at h4
  obtain ⟨ls,Cz,h5,h6⟩:=Fp (p:=p) (gA.1 h4)
  exact ⟨_,_,Gl h1 h3 rfl (fun e=>by cases e) h5,h6⟩
  obtain ⟨ls,Cz,h5,h6⟩:=Fp (p:=p) h4
  exact ⟨_,_,Gl h1 h3 rfl (fun _=>⟨_,rfl,rfl⟩) h5,h6⟩
  obtain ⟨ls,Cz,h5,h6⟩:=Fp (p:=p) h4
  exact ⟨_,_,Gl h1 h3 rfl (fun _=>⟨_,rfl,rfl⟩) h5,h6⟩
  exact h4.elim
  exact h2.elim
theorem wf_set {j:Nat} {d:D} (hd:N0 d=true):∀ {ls:List Lv} {er:List D},Yu ls er→Yu ls (er.set j d)
 | [],er,_=>trivial
 | l :: ls,er,h=>by
  obtain ⟨h1,h2,h3,h4⟩:=h
  refine ⟨h1,h2,fun ho=> ?_,wf_set hd h4⟩
  obtain ⟨x,hx,hn⟩:=h3 ho
  cases ls with
  | nil=>
   simp only [eC] at hx ⊢
   subst hx
   cases j with
   | zero=>exact ⟨d,rfl,hd⟩
   | succ j=>exact ⟨x,rfl,hn⟩
  | cons l2 ls=>
   simp only [eC] at hx ⊢
   have hl:l2.row.length=1:=by have:=congrArg List.length hx;simpa using this
   match hr:l2.row,hl with
   | [y],_=>
    have hq:l2.q=0:=by have:=h4.1;rw [hr] at this;simpa using this
    rw [hq]
    exact ⟨_,rfl,rfl⟩
def RJ (b q1 i sz:Nat) (one:Bool) (ds:List D) (p:List (Nat×Nat)) (ls:List Lv) (j:Nat) (d:D) (s:Option (Nat×Nat)) (er:List D) (e:List En) (rs:Rs) (K:List D→Kn):Prop:=
 rj rs b fun m row=>f_ (row.map (C.kill (ez b ((q1,i) :: p) j))) fun row=>CL er j d fun Cz=>Gk ls Cz fun r=>(match one with
  | true=>(match r with| []=>False|x :: _=>CL row q1 (.own (.sl sz (ds.set i x))) fun row=>k5 b rs (nS rs b ((q1,i) :: p) j m row s) fun rs=>K Cz (.app (m_ b ((q1,i) :: p) j) :: e) rs)
  | false=>CL row q1 (.own (.sl sz (ds.set i (.st r)))) fun row=>k5 b rs (nS rs b ((q1,i) :: p) j m row s) fun rs=>K Cz (.app (m_ b ((q1,i) :: p) j) :: e) rs)
structure SelfW (p k:Prop):Prop where
 h:p
 c:k
theorem slf {p k:Prop} (c:k) (h:p:=by exact ⟨rfl,rfl,rfl⟩):SelfW p k:=⟨h,c⟩
def LN (b q1 i sz:Nat) (one:Bool) (ds:List D) (p:List (Nat×Nat)) (ls:List Lv) (j:Nat) (c:C) (er:List D) (e:List En) (rs:Rs) (K:List D→Kn):Prop:=match c with
 | .ro d=>(match d with
  | .v x=>RJ b q1 i sz one ds p ls j (.v x) none er e rs K
  | _=>False)
 | .ref s=>(match s with
  | ⟨sk,sp,sq⟩=>(match sp with
   | []=>BR (Nat.beq sk b) False (lP rs sk [] sq fun _ c=>match c with
    | .own d=>(match d with
     | .v x=>RJ b q1 i sz one ds p ls j (.v x) (some (sk,sq)) er e rs K
     | .sl s l=>RJ b q1 i sz one ds p ls j (.sl s l) (some (sk,sq)) er e rs K
     | _=>False)
    | _=>False)
   | x :: sp=>sg er j fun _=>SelfW (sk=b∧x :: sp=(q1,i) :: p∧sq=j) (K er e rs)))
 | _=>False
def Yw (b q1 i sz:Nat) (one:Bool) (ds:List D) (p:List (Nat×Nat)) (ls:List Lv) (f:List C→Nat→List D→List En→Rs→Kn→Prop) (cs:List C) (j:Nat) (er:List D) (e:List En) (rs:Rs) (K:Kn):Prop:=match cs with
 | []=>K e rs
 | c :: cs=>LN b q1 i sz one ds p ls j c er e rs fun er e rs=>f_ (cs.map (C.kill (ez b ((q1,i) :: p) j))) fun cs=>f cs (j + 1) er e rs K
def yL (b q1 i sz:Nat) (one:Bool) (ds:List D) (p:List (Nat×Nat)) (ls:List Lv) (n:Nat):List C→Nat→List D→List En→Rs→Kn→Prop:=
 @Nat.rec (fun _=>List C→Nat→List D→List En→Rs→Kn→Prop) (fun cs _ _ e rs K=>Vy cs (K e rs)) (fun _ ih cs j er e rs K=>Yw b q1 i sz one ds p ls ih cs j er e rs K) n
def Yx (n b q1 i sz:Nat) (one:Bool) (ds:List D) (ls:List Lv) (er:List D) (e:List En) (rs:Rs):Prop:=
 ∃ m row dsj,(aZ n e rs).root b=some ⟨m,row⟩∧row[q1]? = some (.own (.sl sz dsj))∧dsj[i]? = some (nc one (eC ls er))∧(∀ x,dsj.set i x=ds.set i x)∧i < ds.length∧BA one (eC ls er)∧Yu ls er
theorem VL {pr:Pl→Bool} {row:List C} (h:row[q]? = some (.own d)):(row.map (C.kill pr))[q]? = some (.own d):=by rw [ec,h];rfl
theorem ok_set {ls:List Lv} (hd:N0 d=true) (ho:BA one (eC ls er)) (hw:Yu ls er):BA one (eC ls (er.set j d)):=by
 have h:=wf_set (j:=j) hd (ls:=⟨[.hole],0,0,[.hole],0,one⟩ :: ls) (er:=er) ⟨by simp,by simp,ho,hw⟩
 exact h.2.2.1
theorem Yx.cellAt {n b q1 i sz j:Nat} {one:Bool} {ds er:List D} {p:List (Nat×Nat)} {ls:List Lv} {e:List En} {rs:Rs} (hp:xo ls=p) (hj:j < er.length)
  (hZ:Yx n b q1 i sz one ds ls er e rs):∃ c0,(aZ n e rs).cellAt ⟨b,(q1,i) :: p,j⟩=some c0:=by
 obtain ⟨m,row,dsj,z1,z2,z3,z4,z5,z6,z7⟩:=hZ
 have hra:∀ {ls:List Lv} {er:List D},Yu ls er→rowAt (eC ls er) (xo ls)=some er:=fun {ls}=>by
  induction ls with
  | nil=>intro er _;rfl
  | cons l ls ih=>
   intro er hw
   obtain ⟨w1,w2,w3,w4⟩:=hw
   have e1:(l.row.set l.q (.sl l.sz (l.ds.set l.i (nc l.one (eC ls er)))))[l.q]? = some (.sl l.sz (l.ds.set l.i (nc l.one (eC ls er)))):=by simp [w1]
   have e2:(l.ds.set l.i (nc l.one (eC ls er)))[l.i]? = some (nc l.one (eC ls er)):=by simp [w2]
   show rowAt _ ((l.q,l.i) :: xo ls)=_
   simp only [rowAt,eC,e1,e2,BB w3]
   exact ih w4
 refine ⟨.own er[j], ?_⟩
 simp only [St.cellAt,z1,z2,z3,BB z6, ← hp,hra z7,bg hj]
theorem Gm {n b q1 i sz j:Nat} {one:Bool} {ds er:List D} {p:List (Nat×Nat)} {ls:List Lv} {d:D} {s:Option (Nat×Nat)} {e:List En} {rs:Rs} {K:List D→Kn} (hp:xo ls=p) (hd:N0 d=true) (hs:∀ x y,s=some (x,y)→x ≠ b)
  (hZ:Yx n b q1 i sz one ds ls er e rs) (h:RJ b q1 i sz one ds p ls j d s er e rs K):
  ∃ m row row' fZ,(aZ n e rs).root b=some ⟨m,row⟩∧(∃ c0,(aZ n e rs).cellAt ⟨b,(q1,i) :: p,j⟩=some c0)∧setRow (row.map (C.kill (ez b ((q1,i) :: p) j))) ((q1,i) :: p) j (.own d)=some row'∧
   (aZ n e rs).wrote b ((q1,i) :: p) j m row' s=aZ n (.app (m_ b ((q1,i) :: p) j) :: e) fZ∧K (er.set j d) (.app (m_ b ((q1,i) :: p) j) :: e) fZ∧
   Yx n b q1 i sz one ds ls (er.set j d) (.app (m_ b ((q1,i) :: p) j) :: e) fZ:=by
 obtain ⟨m,row,dsj,z1,z2,z3,z4,z5,z6,z7⟩:=hZ
 obtain ⟨m',uv,h1,h2⟩:=iZ (n:=n) (e:=e) h
 have hmr:(⟨m,row⟩:Rt)=⟨m',uv⟩:=Option.some.inj (z1.symm.trans h1)
 cases hmr
 obtain ⟨hj,h3⟩:=ny (dK.1 h2)
 have h4:=DR h3
 have hok':=ok_set (j:=j) hd z6 z7
 have hsr:setRow (row.map (C.kill (ez b ((q1,i) :: p) j))) ((q1,i) :: p) j (.own d)=some ((row.map (C.kill (ez b ((q1,i) :: p) j))).set q1 (.own (.sl sz (ds.set i (nc one (eC ls (er.set j d))))))):=by
  simp only [setRow,VL z2,z3,BB z6, ← hp,zL z7 (wf_set hd z7) hj,Option.map_some,Gj z6 hok',z4]
 have Uo:q1 < row.length:=(aM.1 z2).1
 have hcell:∃ c0,(aZ n e rs).cellAt ⟨b,(q1,i) :: p,j⟩=some c0:=Yx.cellAt hp hj ⟨m,row,dsj,z1,z2,z3,z4,z5,z6,z7⟩
 have fin:∀ {row':List C},(k5 b rs (nS rs b ((q1,i) :: p) j m row' s) fun rs=>K (er.set j d) (.app (m_ b ((q1,i) :: p) j) :: e) rs)→K (er.set j d) (.app (m_ b ((q1,i) :: p) j) :: e) (nS rs b ((q1,i) :: p) j m row' s):=fun hn=>hU hn
 have hK:∃ fZ,(aZ n e rs).wrote b ((q1,i) :: p) j m ((row.map (C.kill (ez b ((q1,i) :: p) j))).set q1 (.own (.sl sz (ds.set i (nc one (eC ls (er.set j d))))))) s=aZ n (.app (m_ b ((q1,i) :: p) j) :: e) fZ∧K (er.set j d) (.app (m_ b ((q1,i) :: p) j) :: e) fZ:=by
  cases one with
  | true=>
   obtain ⟨x,hx,_⟩:=hok' rfl
   simp only [hx] at h4
   obtain ⟨_,h5⟩:=ny h4
   refine ⟨_,Bx, ?_⟩
   have:=hU h5
   rw [hx]
   exact this
  | false=>
   simp only at h4
   obtain ⟨_,h5⟩:=ny h4
   exact ⟨_,Bx,hU h5⟩
 obtain ⟨fZ,hw,hk⟩:=hK
 have hgen:∀ (row':List C),((aZ n e rs).wrote b ((q1,i) :: p) j m row' s).root b=some ⟨m,row'⟩:=by
  intro row'
  clear hw h h2 h3
  have base:(((aZ n e rs).kill (ez b ((q1,i) :: p) j) (wY b ((q1,i) :: p) j)).cw b ⟨m,row'⟩).root b=some ⟨m,row'⟩:=by simp [St.cw,St.root]
  cases s with
  | none=>exact base
  | some s=>
   obtain ⟨k1,q1'⟩:=s
   have hne:=hs k1 q1' rfl
   simp only [St.wrote]
   split
   exact base
   simp only [St.cw,St.root] at base ⊢
   rw [List.find?_cons_of_neg (by simpa using hne),List.filter_cons,if_pos (by simpa using Ne.symm hne)]
   simp
 refine ⟨m,row,_,fZ,z1,hcell,hsr,hw,hk,m,_,_,by rw [← hw];exact hgen _,by simp [Uo];rfl,by simp [z5],fun x=>by simp,z5,hok',wf_set hd z7⟩
theorem To {ls:List Lv} {c:C} {e:List En} {K:List D→Kn} (hp:xo ls=p) 
  (hZ:Yx n b q1 i sz one ds ls er e rs) (h:LN b q1 i sz one ds p ls j c er e rs K):
  ∃ d e' fZ,(∃ c0,(aZ n e rs).cellAt ⟨b,(q1,i) :: p,j⟩=some c0)∧(aZ n e rs).d_ ⟨b,(q1,i) :: p,j⟩ c=some (aZ n e' fZ)∧K (er.set j d) e' fZ∧Yx n b q1 i sz one ds ls (er.set j d) e' fZ:=by
 unfold LN at h
 split at h
 split at h
 obtain ⟨m,row,row',fZ,h1,h2,h3,h4,h5,h6⟩:=Gm hp rfl (fun x y e=>by cases e) hZ h
 refine ⟨_,_,fZ,h2, ?_,h5,h6⟩
 simp only [St.d_,h1,h3,Option.map_some,h4]
 exact h.elim
 rename_i s
 obtain ⟨sk,sp,sq⟩:=s
 simp only at h
 split at h
 obtain ⟨g1,g2⟩:=rm h
 have hne:sk ≠ b:=fun e=>by subst e;simp at g1
 obtain ⟨_,c',g3,_,g4⟩:=fF (n:=n) (e:=e) g2
 split at g4
 split at g4
 obtain ⟨m,row,row',fZ,h1,h2,h3,h4,h5,h6⟩:=Gm hp rfl (fun x y e=>by cases e;exact hne) hZ g4
 refine ⟨_,_,fZ,h2, ?_,h5,h6⟩
 simp [St.d_,h1,hne,g3,h3,h4]
 obtain ⟨m,row,row',fZ,h1,h2,h3,h4,h5,h6⟩:=Gm hp rfl (fun x y e=>by cases e;exact hne) hZ g4
 refine ⟨_,_,fZ,h2, ?_,h5,h6⟩
 simp [St.d_,h1,hne,g3,h3,h4]
 exact g4.elim
 exact g4.elim
 obtain ⟨x0,f1,f2⟩:=iK h
 obtain ⟨⟨rfl,f3,rfl⟩,f4⟩:=f2
 obtain ⟨fl,fe⟩:=aM.1 f1
 obtain ⟨c0,f5⟩:=Yx.cellAt hp fl hZ
 have f6:er.set sq x0=er:=by rw [← fe];exact List.set_getElem_self _
 refine ⟨x0,e,rs,⟨c0,f5⟩, ?_,by rw [f6];exact f4,by rw [f6];exact hZ⟩
 obtain ⟨m,row,dsj,z1,_⟩:=hZ
 rw [f3]
 simp [St.d_,z1]
 exact h.elim
theorem Gn {n b q1 i sz:Nat} {one:Bool} {ds:List D} {p:List (Nat×Nat)} {ls:List Lv} (hp:xo ls=p):∀ {m:Nat} {cs:List C} {j:Nat} {er:List D} {e:List En} {rs:Rs} {K:Kn},Yx n b q1 i sz one ds ls er e rs→
  yL b q1 i sz one ds p ls m cs j er e rs K→∃ bJ,St.storeAll b ((q1,i) :: p) cs id j (aZ n e rs)=some bJ∧Lg n K bJ
 | m,[],j,er,e,rs,K,hZ,h=>⟨_,rfl, .mk (by cases m <;> exact h)⟩
 | 0,_ :: _,j,er,e,rs,K,hZ,h=>h.elim
 | m + 1,c :: cs,j,er,e,rs,K,hZ,h=>by
  have h:LN b q1 i sz one ds p ls j c er e rs fun er e rs=>f_ (cs.map (C.kill (ez b ((q1,i) :: p) j))) fun cs=>yL b q1 i sz one ds p ls m cs (j + 1) er e rs K:=h
  obtain ⟨d,e',fZ,⟨c0,h1⟩,h2,h3,h4⟩:=To hp hZ h
  obtain ⟨yy,h5,h6⟩:=Gn hp (m:=m) (cs:=cs.map (C.kill (ez b ((q1,i) :: p) j))) h4 (dK.1 h3)
  refine ⟨yy, ?_,h6⟩
  simp only [St.storeAll,h1,id_eq,h2]
  rw [vr] at h5
  exact h5
def zatW (b q1 i:Nat) (p:List (Nat×Nat)) (cs:List C) (q:Nat) (e:List En) (rs:Rs) (K:Kn):Prop:=rj rs b fun _ row=>sg row q1 fun c=>match c with
 | .own d=>(match d with
  | .sl sz ds=>Yj ds i fun el=>(match el with
   | .st er=>lG er fun er=>Qi er p fun ls Cz=>yL b q1 i sz false ds p ls 40 cs q Cz e rs K
   | .v x=>Qi [.v x] p fun ls Cz=>yL b q1 i sz true ds p ls 40 cs q Cz e rs K
   | .sl s l=>Qi [.sl s l] p fun ls Cz=>yL b q1 i sz true ds p ls 40 cs q Cz e rs K
   | .hole=>False)
  | _=>False)
 | _=>False
theorem RK {cs:List C} {e:List En} {K:Kn} (h:zatW b q1 i p cs q e rs K):∃ bJ,St.storeAll b ((q1,i) :: p) cs id q (aZ n e rs)=some bJ∧Lg n K bJ:=by
 obtain ⟨m,row,h1,h2⟩:=iZ (n:=n) (e:=e) h
 obtain ⟨c,h3,h4⟩:=iK h2
 split at h4
 split at h4
 rename_i sz ds
 obtain ⟨el,h5,h6⟩:=Aw h4
 obtain ⟨hi,hi2⟩:=aM.1 h5
 have fin:∀ {one:Bool},nc one el.row=el→BA one el.row→(Qi el.row p fun ls Cz=>yL b q1 i sz one ds p ls 40 cs q Cz e rs K)→∃ bJ,St.storeAll b ((q1,i) :: p) cs id q (aZ n e rs)=some bJ∧Lg n K bJ:=fun hw ho hz=>by
  obtain ⟨ls,er,⟨z1,z2,z3⟩,z4⟩:=Fp hz
  exact Gn z2 ⟨m,row,ds,h1,h3,by rw [z1,hw];exact h5,fun x=>rfl,hi,by rw [z1];exact ho,z3⟩ z4
 split at h6
 exact fin rfl (fun e=>by cases e) (gA.1 h6)
 exact fin rfl (fun _=>⟨_,rfl,rfl⟩) h6
 exact fin rfl (fun _=>⟨_,rfl,rfl⟩) h6
 exact h6.elim
 exact h4.elim
 exact h4.elim
end
section
variable {b k q:Nat} {x y:Operand} {t t2:TypeId}
section
variable {P:Program} {w0:World} {g0:Gh} {n:Nat} {e:List En} {rs:Rs} {o:Oper} {K:Kn}
def N3 (rs:Rs) (b:Nat) (k:Nat→List D→Prop):Prop:=rj rs b fun m row=>BR m False (match row with
 | []=>False
 | c :: l=>(match l with
  | []=>(match c with
   | .own d=>(match d with| .sl sz ds=>k sz ds|_=>False)
   | _=>False)
  | _=>False))
theorem BC {k:Nat→List D→Prop} (h:N3 rs b k):∃ sz ds,(aZ n e rs).root b=some ⟨false,[.own (.sl sz ds)]⟩∧k sz ds:=by
 obtain ⟨m,row,h1,h2⟩:=iZ (n:=n) (e:=e) h
 obtain ⟨rfl,h3⟩:=rm h2
 split at h3
 exact h3.elim
 split at h3
 split at h3
 split at h3
 exact ⟨_,_,h1,h3⟩
 exact h3.elim
 exact h3.elim
 exact h3.elim
def flatW (P:Program) (t:TypeId) (k:Nat→Bool→Prop):Prop:=Kh P t fun i z row=>oneOf i.size small fun sz=>BR (Nat.ble i.bytes 1048576 && Nat.beq z.cells.size sz) (k sz (allV row)) False
def Gp (P:Program) (n:Nat) (k b:Nat) (y:Operand) (t t2:TypeId) (e:List En) (rs:Rs) (K:Kn):Prop:=N3 rs b fun sz ds=>match P.underlying t with
 | some (.slice el)=>(match P.underlying t2 with
  | some (.slice _)=>flatW P el fun s fl=>BR (Nat.beq s sz) (BR fl
   (gH n e sz y fun tv=>Ga rs tv fun sz' ns=>BR (Nat.beq sz' sz) (AppP ds ns (LH [k,b] k sz (ds ++ ns) e rs K)) False)
   (gH n e 0 y fun tv=>match tv with
    | .one (.c (.ref s))=>(match s with
     | ⟨k2,p,q⟩=>(match p,q with
      | [],0=>BR (Nat.beq k2 b) False (N3 rs k2 fun sz' ns=>BR (Nat.beq sz' sz) (AppO ds ns (LH [k,b,k2] k sz (ds ++ ns) e rs K)) False)
      | _,_=>False))
    | _=>False)) False
  | _=>False)
 | _=>False
theorem DS (ho:o.op= .call { callee:= .builtin .append,args:= #[x,y],argTypes:= #[t,t2] }) (hd:o.dst=some k) (hx:T.cH 0 (aZ n e rs) x=some (.one (.c (.ref ⟨b,[],0⟩)))) 
  (h:Gp P n k b y t t2 e rs K):gJ P w0 g0 o (aZ n e rs) (Lg n K):=by
 obtain ⟨sz,ds,h1,h2⟩:=BC (n:=n) (e:=e) h
 split at h2
 rename_i el hu
 split at h2
 rename_i el2 Up
 obtain ⟨i,z,row,h3,h4,h5,h6,h7,h8⟩:=By h2
 obtain ⟨h9,mo⟩:=bQ (oo h8)
 simp only [bh] at h9
 have h92:=ed h9.2
 obtain ⟨qT,h12⟩:=bQ mo
 have qT:=ed qT
 subst qT
 rcases gM.1 h12 with ⟨_,rB⟩|⟨_,rB⟩
 obtain ⟨tv,w8,uJ⟩:=bY (rs:=rs) rB
 obtain ⟨sz',ns,Ki,Nc⟩:=uI (n:=n) (e:=e) uJ
 obtain ⟨Tm,Uu⟩:=bQ Nc
 have Tm:=ed Tm
 subst Tm
 obtain ⟨VG,Yt⟩:=yH (n:=n) Uu.c
 exact .X7 ho hd hx w8 h1 Ki Uu.plain hu Up h3 h4 rfl h9.1 h92 Uu.len Yt VG
 obtain ⟨tv,w8,uJ⟩:=bY (rs:=rs) rB
 split at uJ
 rename_i s
 obtain ⟨k2,p,q⟩:=s
 simp only at uJ
 split at uJ
 obtain ⟨Ki,Nc⟩:=rm uJ
 obtain ⟨sz',ns,Tm,Uu⟩:=BC (n:=n) (e:=e) Nc
 obtain ⟨VG,Yt⟩:=bQ Uu
 have VG:=ed VG
 subst VG
 obtain ⟨h22,h23⟩:=yH (n:=n) Yt.c
 exact .U6 ho hd hx w8 h1 Tm (fun e=>by subst e;simp at Ki) Yt.nh hu Up h3 h4 rfl h9.1 h92 Yt.len h23 h22
 exact uJ.elim
 exact uJ.elim
 exact h2.elim
 exact h2.elim
abbrev tmpK:Nat:=999998
def RM (P:Program) (n:Nat) (k:Nat) (x y:Operand) (t t2:TypeId) (e:List En) (rs:Rs) (K:Kn):Prop:=gH n e 0 x fun a=>match a with
 | .one (.c (.ref s))=>(match s with
  | ⟨b,p,q⟩=>rj rs b fun m row=>BR (!m && Nat.beq row.length 1 && p.isEmpty && Nat.beq q 0) (Gp P n k b y t t2 e rs K) (VA b p q tmpK e rs fun e rs=>Gp P n k tmpK y t t2 e rs K))
 | _=>False
theorem Tp {st bJ:St} {L:Nat} {p:List (Nat×Nat)} (hx:T.cH 0 st x=some (.one (.c (.ref ⟨b,p,q⟩)))) (hL:b ≠ L) (ht:st.takeN b p q L=some bJ):T.cH 0 bJ x=some (.one (.c (.ref ⟨L,[],0⟩))):=by
 cases x with
 | const v=>
  simp only [cH] at hx
  split at hx
  simp at hx
  split at hx <;> simp at hx
 | func f=>simp [cH] at hx
 | global g=>simp [cH] at hx
 | tmp i=>
  have hx':st.tmps[i]? = some (.one (.c (.ref ⟨b,p,q⟩))):=hx
  simp only [St.takeN] at ht
  split at ht
  rename_i r hr
  split at ht
  rename_i sz ds hc
  rw [iX] at ht
  obtain ⟨row',h1,h2⟩:=ht
  subst h2
  show ((((st.fresh L ⟨false,[.own (.sl sz ds)]⟩).cw b ⟨r.mem,row'⟩).tmps.map (reT b p q L))[i]?)=_
  have h3:((st.fresh L ⟨false,[.own (.sl sz ds)]⟩).cw b ⟨r.mem,row'⟩).tmps=st.tmps.map (TS.kill (fun pl=>pl.k == L) (fun pl=>pl.k == L)):=rfl
  have h4:(b == L)=false:=by simpa using hL
  rw [h3,List.map_map,ec,hx']
  simp [TS.kill,TV.kill,C.kill,h4,reT,reC]
  cases ht
  cases ht
theorem Qj (ho:o.op= .call { callee:= .builtin .append,args:= #[x,y],argTypes:= #[t,t2] }) (hd:o.dst=some k) 
  (h:RM P n k x y t t2 e rs K):gJ P w0 g0 o (aZ n e rs) (Lg n K):=by
 obtain ⟨a,h1,h2⟩:=bY (rs:=rs) h
 split at h2
 rename_i s
 obtain ⟨b,p,q⟩:=s
 simp only at h2
 obtain ⟨m,row,h3,h4⟩:=iZ (n:=n) (e:=e) h2
 rcases gM.1 h4 with ⟨h5,h6⟩|⟨_,h6⟩
 simp only [bh] at h5
 have h7:p=[]:=by simpa using h5.1.2
 have h8:=ed h5.2
 subst h7;subst h8
 exact DS ho hd h1 h6
 obtain ⟨h7,bJ,h8,e',fZ,h9,mo⟩:=NW (n:=n) h6
 have qT:=Tp h1 h7 h8
 subst h9
 exact .takeN h8 h7 (by decide) (DS ho hd qT mo)
 exact h2.elim
def Gq:List D→(List C→Prop)→Prop
 | [],k=>k []
 | d :: l,k=>match d with
  | .sl s ds=>Gq l fun l=>k (.own (.sl s ds) :: l)
  | .v _=>Gq l k
  | .st _=>Gq l k
  | .hole=>Gq l k
theorem pT:∀ {l:List D} {k:List C→Prop},Gq l k→k ((l.filter zw).map C.own)
 | [],k,h=>h
 | d :: l,k,h=>by
  cases d with
  | sl s ds=>exact pT (l:=l) h
  | v x=>exact pT (l:=l) h
  | st x=>exact pT (l:=l) h
  | hole=>exact pT (l:=l) h
def lacks (parts:List (Nat×Operand)):Nat→List (Nat×Nat)→List D→Bool
 | _,[],_=>false
 | i,(off,s) :: pl,row=>(!(parts.any fun p=>Nat.beq p.1 i) && !(allV ((row.drop off).take s))) || lacks parts (i + 1) pl row
def VM (P:Program) (n:Nat) (k:Nat) (t:TypeId) (parts:List (Nat×Operand)) (e:List En) (rs:Rs) (K:Kn):Prop:=Fm P t fun row pl=>BR (lacks parts 0 pl row)
 (Gq row fun cs=>tV k false cs e rs fun e rs=>Ay n e parts fun pc=>NS pl (we k 0 row) pc fun cs=>K (.set k (.one (.agg cs)) :: e) rs)
 (Ay n e parts fun pc=>NS pl (row.map C.ro) pc fun cs=>K (.set k (.one (.agg cs)) :: e) rs)
theorem Tq {parts:Array (Nat×Operand)} (ho:o.op= .build t parts) (hd:o.dst=some k) (h:VM P n k t parts.toList e rs K):gJ P w0 g0 o (aZ n e rs) (Lg n K):=by
 obtain ⟨fs,it,z,row,pl,h1,h2,h3,h4,h5,h6,h7,h8⟩:=Gb h
 rcases gM.1 h8 with ⟨_,h9⟩|⟨_,h9⟩
 obtain ⟨mo,e',fZ,qT,h12⟩:=yG (n:=n) (pT h9)
 obtain ⟨pc,rB,w8⟩:=rP (rs:=fZ) h12
 obtain ⟨cs,uJ,Ki⟩:=Gc w8
 refine gJ.buildN (parts:=parts.toList) (by rw [ho]) hd h1 h2 h3 h4 h5 h6 h7 rfl (by rw [qT];exact rB) uJ ?_ mo
 rw [qT]
 exact .put Ki
 obtain ⟨pc,rB,w8⟩:=rP (rs:=rs) h9
 obtain ⟨cs,uJ,Ki⟩:=Gc w8
 refine .val (eA.build (parts:=parts.toList) (by rw [ho]) rB h1 h2 h3 h4 h5 h6 h7 uJ) ?_
 rw [hd]
 exact .put Ki
def mY (dst:Option Nat) (t:TS) (e:List En) (rs:Rs) (K:Kn):Prop:=match dst with
 | some i=>K (.set i t :: e) rs
 | none=>K e rs
theorem gF {dst:Option Nat} {t:TS} (h:mY dst t e rs K):Lg n K ((aZ n e rs).put dst t):=by
 cases dst with
 | none=>exact .mk h
 | some i=>exact .put h
noncomputable def markB (rs:Rs):Bool:= @List.rec (Nat×Rt) (fun _=>Bool) false (fun x _ ih=> @Bool.rec (fun _=>Bool) ih true (Nat.beq x.1 999997)) rs
def Gr (b q:Nat) (c:C) (e:List En) (rs:Rs) (K:Kn):Prop:=match c with
 | .ref s=>rj rs b fun m row=>f_ (row.map (C.kill (ez b [] q))) fun row=>BR (ez b [] q s) False (ot row [] q (.ref s) fun row=>k5 b rs (nS rs b [] q m row none) fun rs=>K (.app (m_ b [] q) :: e) rs)
 | .ro d=>vq b [] q (.ro d) e rs K
 | .own _=>False
 | .dead=>False
theorem N4 {n:Nat} {c:C} {e:List En} {rs:Rs} {K:Kn} (h:Gr b q c e rs K):∃ bJ,(aZ n e rs).om ⟨b,[],q⟩ c=some bJ∧Lg n K bJ:=by
 cases c with
 | ref s=>
  obtain ⟨m,row,h1,h2⟩:=iZ (n:=n) (e:=e) h
  obtain ⟨h4,h5⟩:=rm (dK.1 h2)
  obtain ⟨row',h6,h7⟩:=kI h5
  refine ⟨_,by simp [St.om,h1,h4,h6];rfl, ?_⟩
  rw [Bx]
  exact .mk (hU h7)
 | ro d=>exact si h
 | own d=>exact h.elim
 | dead=>exact h.elim
def VN (b:Nat) (f:List C→Nat→List En→Rs→Kn→Prop) (cs:List C) (q:Nat) (e:List En) (rs:Rs) (K:Kn):Prop:=match cs with
 | []=>K e rs
 | c :: cs=>lP rs b [] q fun _ _=>Gr b q c e rs fun e rs=>f_ (cs.map (C.kill (ez b [] q))) fun cs=>f cs (q + 1) e rs K
def Gs (b:Nat) (n:Nat):List C→Nat→List En→Rs→Kn→Prop:=
 @Nat.rec (fun _=>List C→Nat→List En→Rs→Kn→Prop) (fun cs _ e rs K=>Vy cs (K e rs)) (fun _ ih cs q e rs K=>VN b ih cs q e rs K) n
theorem zM {b:Nat} {g:C→C}:∀ {cs:List C} {f:C→C} {q:Nat} {st:St},St.iP b (cs.map g) f q st=St.iP b cs (fun c=>f (g c)) q st
 | [],f,q,st=>rfl
 | c :: cs,f,q,st=>by
  simp only [St.iP,List.map_cons]
  cases st.cellAt ⟨b,[],q⟩ with
  | none=>rfl
  | some c0=>
   simp only
   cases st.om ⟨b,[],q⟩ (f (g c)) with
   | none=>rfl
   | some bJ=>
    simp only
    rw [zM (cs:=cs)]
theorem DT {n b:Nat}:∀ {m:Nat} {cs:List C} {q:Nat} {e:List En} {rs:Rs} {K:Kn},Gs b m cs q e rs K→∃ bJ,St.iP b cs id q (aZ n e rs)=some bJ∧Lg n K bJ
 | m,[],q,e,rs,K,h=>⟨_,rfl, .mk (by cases m <;> exact h)⟩
 | 0,_ :: _,q,e,rs,K,h=>h.elim
 | m + 1,c :: cs,q,e,rs,K,h=>by
  have h:lP rs b [] q fun _ _=>Gr b q c e rs fun e rs=>f_ (cs.map (C.kill (ez b [] q))) fun cs=>Gs b m cs (q + 1) e rs K:=h
  obtain ⟨_,c0,h1,_,h2⟩:=fF (n:=n) (e:=e) h
  obtain ⟨bJ,h3,e',fZ,h4,h5⟩:=N4 (n:=n) h2
  subst h4
  obtain ⟨yy,h6,h7⟩:=DT (n:=n) (m:=m) (cs:=cs.map (C.kill (ez b [] q))) (dK.1 h5)
  refine ⟨yy, ?_,h7⟩
  simp only [St.iP,h1,id_eq,h3]
  rw [zM] at h6
  exact h6
def VO (P:Program) (n:Nat) (dst:Option Nat) (t:TypeId) (x y:Operand) (e:List En) (rs:Rs) (K:Kn):Prop:=gH n e 0 x fun a=>match a with
 | .one (.ptr pl)=>(match pl with
  | ⟨b,p,q⟩=>s_ P t fun s=>VC P t fun z=>gH n e z y fun v=>match v with
   | .one (.c c)=>BR (Nat.beq s 1) (match p with
    | []=>lP rs b [] q fun m _=>BR m (vq b [] q c e rs fun e rs=>mY dst (.one .dead) e rs K) False
    | x :: p=>(match x with|(q1,i)=>zatW b q1 i p [c] q e rs fun e rs=>mY dst (.one .dead) e rs K)) False
   | .one (.agg cs)=>BR (Nat.beq cs.length s) (match p with
    | []=>lP rs b [] q fun m _=>BR m (BR (markB rs) (Gs b 40 cs q e rs fun e rs=>mY dst (.one .dead) e rs K) (LJ b [] 40 cs q e rs fun e rs=>mY dst (.one .dead) e rs K)) False
    | x :: p=>(match x with|(q1,i)=>zatW b q1 i p cs q e rs fun e rs=>mY dst (.one .dead) e rs K)) False
   | _=>False)
 | _=>False
theorem Tr (ho:o.op= .store t x y) (h:VO P n o.dst t x y e rs K):gJ P w0 g0 o (aZ n e rs) (Lg n K):=by
 obtain ⟨a,h1,h2⟩:=bY (rs:=rs) h
 split at h2
 rename_i pl
 obtain ⟨b,p,q⟩:=pl
 simp only at h2
 obtain ⟨s,h3,h4⟩:=k6 h2
 obtain ⟨z,h4⟩:=LK h4
 obtain ⟨v,h5,h6⟩:=bY (rs:=rs) h4
 split at h6
 obtain ⟨h7,h8⟩:=bQ h6
 have h7:=ed h7
 subst h7
 cases p with
 | nil=>
  obtain ⟨m,c0,h9,mo,qT⟩:=fF (n:=n) (e:=e) h8
  obtain ⟨rfl,h12⟩:=bQ qT
  obtain ⟨bJ,rB,e',fZ,w8,uJ⟩:=si (n:=n) h12
  subst w8
  exact .store ho h1 h5 h3 h9 mo rB (gF uJ)
 | cons x p=>
  obtain ⟨q1,i⟩:=x
  obtain ⟨bJ,rB,e',fZ,w8,uJ⟩:=RK (n:=n) h8
  subst w8
  simp only [St.storeAll,id_eq] at rB
  split at rB
  rename_i c0 hc0
  split at rB
  rename_i yy hst
  cases rB
  exact .store ho h1 h5 h3 hc0 rfl hst (gF uJ)
  cases rB
  cases rB
 obtain ⟨h7,h8⟩:=bQ h6
 have h7:=ed h7
 cases p with
 | nil=>
  obtain ⟨m,c0,h9,mo,qT⟩:=fF (n:=n) (e:=e) h8
  obtain ⟨rfl,h12⟩:=bQ qT
  cases hmk:markB rs with
  | true=>
   rw [hmk] at h12
   obtain ⟨bJ,rB,e',fZ,w8,uJ⟩:=DT (n:=n) h12
   subst w8
   exact .Th ho rfl h1 (Bz h5) h3 h7 mo rB (gF uJ)
  | false=>
   rw [hmk] at h12
   obtain ⟨bJ,rB,e',fZ,w8,uJ⟩:=Gd (n:=n) h12
   subst w8
   exact .Nj ho h1 (Bz h5) h3 h7 mo rB (gF uJ)
 | cons x p=>
  obtain ⟨q1,i⟩:=x
  obtain ⟨bJ,rB,e',fZ,w8,uJ⟩:=RK (n:=n) h8
  subst w8
  exact .Nj ho h1 (Bz h5) h3 h7 rfl rB (gF uJ)
 exact h6.elim
 exact h2.elim
end
end
end Go.Proofs.YtdliggkohdnipaaGreat.T
