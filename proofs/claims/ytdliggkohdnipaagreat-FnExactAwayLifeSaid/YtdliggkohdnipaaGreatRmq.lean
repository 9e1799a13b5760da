import Derived.Test.YtdliggkohdnipaaGreatRiq
import Derived.Test.YtdliggkohdnipaaGreatTzoq
set_option linter.unusedVariables false
set_option linter.unusedSimpArgs false
namespace Go.Proofs.YtdliggkohdnipaaGreat.T
open Go
section
variable {d:D} {a i j:Int} {ds:List D} {m n:Nat} {rs:Rs}
theorem cg {k:Prop} (c:k) (lo: -9223372036854775808 ≤ a:=by omega) (hi:a ≤ 9223372036854775807:=by omega):P9 a k:=⟨lo,hi,c⟩
theorem nz {k:Prop} (c:k) (h:a ≠ 0:=by first|decide|omega):NzW a k:=⟨h,c⟩
theorem LU {k:Nat→Prop} (n:Nat) (c:k n) (h:ds.length=n:=by simp <;> omega):Vk ds k:=⟨n,h,c⟩
theorem dM {α:Type} {f: α→D} {xs:List α} {y: α} {k:D→Prop} (hy:xs[m]? = some y) (c:k (f y)) (h0:i=m:=by omega):IxW (xs.map f) i k:=⟨m,f y,h0,by rw [ec,hy];rfl,c⟩
theorem ixd {k:D→Prop} (hy:ds[m]? = some d) (c:k d) (h0:i=m:=by omega):IxW ds i k:=⟨m,d,h0,hy,c⟩
theorem di {k:Nat→Prop} (c:k m) (h:m < ds.length:=by simp <;> omega):BndW ds (m:Int) k:=⟨m,rfl,h,c⟩
theorem bl {k:Nat→Prop} (c:k i.toNat) (h:0 ≤ i∧i < ds.length:=by simp <;> omega):BndW ds i k:=⟨i.toNat,by omega,by omega,c⟩
theorem cut (a b:Nat) {k:Nat→Nat→Prop} (c:k a b) (h0:i=a:=by omega) (h1:j=b:=by omega) (h2:a ≤ b:=by omega) (h3:b ≤ n:=by first|omega|(simp <;> omega)):CutW n i j k:=⟨a,b,h0,h1,h2,h3,c⟩
theorem Tv {n n':Int} (m:Nat) {k:Nat→Prop} (c:k m) (h:n=m:=by omega) (h':n'=m:=by omega) (hm:m ≤ 134217728:=by omega):VB n n' k:=⟨m,h,h',hm,c⟩
theorem Tw {P:Program} {ty:TypeId} {us vs:List Value} {k:Prop} (c:k) (ht:P.underlying ty=some (.struct (P.fieldsOf ty)):=by exact rfl) (hp:P.stoodInHeld ty=false:=by kernel_rfl) (hm:P.eqGuardType P.depth ty=false:=by kernel_rfl) 
  (hf:r5 P 0 (P.fieldsOf ty).toList us vs=true:=by exact rfl):EqA P ty us vs k:=⟨ht,hp,hm,hf,c⟩
theorem ur {α:Type} {inv: α→Prop} {v: α→Nat} {x: α} {E: α→List En} {R: α→Rs} {e:List En} (nm:List (Nat×Nat)) (y: α) (h2:inv y) (h3:Gy e rs nm (E y) (R y):=by repeat' first|exact rfl|constructor|(refine dL ?_;simp;done)) (h1:v y < v x:=by first|omega|(dsimp only;omega)):NextW inv v x E R e rs:=⟨nm,y,h1,h2,h3⟩
theorem cJ {i:Nat} {k:D→Prop} (c:k d) (h:i < ds.length:=by first|omega|(simp only [bD] <;> omega)): @Option.rec D (fun _=>Prop) False k ((ds.set i d)[i]?):=Ax (by rw [List.getElem?_set_self h]) c
class Qo (ds:List D) (n:outParam Nat):Prop where
 h:ds.length=n
instance (priority:=low) (ds:List D):Qo ds ds.length:=⟨rfl⟩
instance {α:Type} (f: α→D) (xs:List α):Qo (xs.map f) xs.length:=⟨aI ..⟩
instance (a b:List D) (n m:Nat) [h:Qo a n] [h2:Qo b m]:Qo (a ++ b) (n + m):=⟨by rw [o4,h.h,h2.h]⟩
instance (i:Nat) (d:D):Qo (List.replicate i d) i:=⟨List.length_replicate ..⟩
theorem len {k:Nat→Prop} [h:Qo ds n] (c:k n):Vk ds k:=⟨n,h.h,c⟩
theorem mkn {k:Nat→Prop} (c:k m) (hm:m ≤ 134217728:=by omega):VB (m:Int) (m:Int) k:=⟨m,rfl,rfl,hm,c⟩
theorem cvs {k:Int→Prop} (c:k a) (lo: -9223372036854775808 ≤ a:=by omega) (hi:a ≤ 9223372036854775807:=by omega):RB .i64 a k:=⟨a,by rw [IntKind.wrap_i64];omega,c⟩
theorem uu {e:List En} {nm:List (Nat×Nat)} {E:List En} {R:Rs} (h:Gy e rs nm E R:=by repeat' first|exact rfl|constructor|(refine dL ?_;simp;done)):Gy e rs nm E R:=h
theorem YE (a b:Nat) {k:Nat→Nat→Prop} (c:k a b) (h0:i=a:=by omega) (h1:j=b:=by omega) (h2:a < b:=by omega) (h3:b ≤ n:=by first|omega|(simp <;> omega)):CutO n i j k:=⟨a,b,h0,h1,h2,h3,c⟩
theorem cpy {ns:List D} {lo len:Nat} {k:Nat→List D→Prop} (n:Nat) (l:List D) [hd:PL ds] [hn:PL ns] (c:k n l) (h1:n=Nat.min ns.length len:=by rfl) (h0:0 < n:=by decide) (he:l=ds.take lo ++ ns.take n ++ ds.drop (lo + n):=by rfl):RO ds ns lo len k:=⟨n,l,hd.w,hn.w,h1,h0,he,c⟩
end
section
variable {qA:Array TypeId} {c:Code} {fn:Func} {f:FuncId} {ds row rows:List D} {args:List Operand} {pts:List TS} {n sz:Nat} {o:Oper} {cx:Operand} {P:Program} {bJ:St} {t:TS} {x:Value}
def LV:List C→(List D→Prop)→Prop
 | [],k=>k []
 | c :: l,k=>match c with
  | .own d=>LV l fun l=>k (d :: l)
  | _=>False
theorem Ku:∀ {l:List C} {k:List D→Prop},LV l k→∃ ds,l=ds.map C.own∧k ds
 | [],k,h=>⟨[],rfl,h⟩
 | c :: l,k,h=>by
  unfold LV at h
  split at h
  obtain ⟨ds,h1,h2⟩:=Ku (l:=l) h
  exact ⟨_ :: ds,by simp [h1],h2⟩
  exact h.elim
def LW (k:Nat):List (Nat×Nat)→Bool
 | []=>true
 | (a,_) :: l=> !(Nat.beq a k) && LW k l
theorem GA {k:Nat}:∀ {l:List (Nat×Nat)},LW k l=true→(l.all fun s=>s.1 != k)=true
 | [],_=>rfl
 | (a,q) :: l,h=>by
  simp only [LW,bh,Bool.not_eq_true'] at h
  have hne:a ≠ k:=fun e=>by subst e;simp at h
  simp only [List.all_cons,bh,bne_iff_ne,ne_eq]
  exact ⟨hne,GA h.2⟩
def V4 (P:Program) (n:Nat) (rv:List ResultVar) (hk:Nat) (hm:Bool) (hl:Nat) (R:List D→nQ→Prop) (e:List En) (rs:Rs):Prop:=
 Kt P n e rs rv fun dm=>BR (Nat.ble rv.length 4 && CU (dm.flatMap fR) && LW hk (dm.flatMap fR)) (Gz rs (dm.flatMap fR) fun row=>rj rs hk fun m row'=>BR (m == hm) (LV row' fun ds=>BR (Nat.beq ds.length hl)
  (R ds ⟨row,fun k=>oO (dm.map (jo (dm.flatMap fR) k))⟩) False) False) False
def N9 (P:Program) (n:Nat) (rv:List ResultVar) (hk:Nat) (hm:Bool) (hl:Nat) (R:List D→nQ→Prop):Kx:=fun ex e rs=>match ex with
 | .normal=>V4 P n rv hk hm hl R e rs
 | .ret=>V4 P n rv hk hm hl R e rs
 | _=>False
theorem GB {h:Hand} {R:List D→nQ→Prop} {ex:Exit} {st:St} (hh:Lf n (N9 P n fn.results.toList h.k h.mem h.row.length R) ex st):ND P fn h R ex st:=by
 obtain ⟨e,rs,rfl,hh⟩:=hh
 have key:V4 P n fn.results.toList h.k h.mem h.row.length R e rs→∀ ex,(ex= .normal ∨ ex= .ret)→ND P fn h R ex (aZ n e rs):=fun hh ex hex=>by
  obtain ⟨dm,h1,h2⟩:=xu hh
  obtain ⟨h3,h4⟩:=bQ h2
  simp only [bh] at h3
  obtain ⟨row,h5,h6⟩:=yP (n:=n) (e:=e) h4
  obtain ⟨m,row',h7,h8⟩:=iZ (n:=n) (e:=e) h6
  obtain ⟨h9,mo⟩:=bQ h8
  have h9:m=h.mem:=by simpa using h9
  obtain ⟨ds,qT,h12⟩:=Ku mo
  obtain ⟨rB,w8⟩:=bQ h12
  subst h9
  subst qT
  exact ⟨hex,fn.results.toList,dm,row,ds,rfl,fA h3.1.1,h1,yO h3.1.2,h5,h7,ed rB,GA h3.2,w8⟩
 unfold N9 at hh
 split at hh
 exact key hh _ (.inl rfl)
 exact key hh _ (.inr rfl)
 exact hh.elim
def V5 (h:Hand) (k:Nat→Bool→Nat→Rs→Prop):Prop:=match h with
 | ⟨m,row⟩=>BR m (zK row fun cs=>k 1000001 true row.length [(1000001,⟨true,cs⟩)]) (zK row fun cs=>k 1000000 false row.length [(1000000,⟨false,cs⟩)])
theorem N_ {h:Hand} {k:Nat→Bool→Nat→Rs→Prop} (hh:V5 h k):k h.k h.mem h.row.length [(h.k,⟨h.mem,h.row.map C.own⟩)]:=by
 obtain ⟨m,row⟩:=h
 rcases gM.1 hh with ⟨rfl,h1⟩|⟨rfl,h1⟩
 exact oq h1
 exact oq h1
theorem eH.w {h:Hand} {R:List D→nQ→Prop} (n:Nat) (hf:P.funcs[f]? = some fn) 
  (hh:∀ w g0,jq pts→sj 0 pts fun e=>V5 h fun hk hm hl rs=>wC P w g0 n c e rs (N9 P n fn.results.toList hk hm hl R))
  (hb:fn.body=some c:=by exact rfl) (hn:fn.ntmps=n:=by exact rfl) (eW:Nat.ble pts.length n=true:=by exact rfl):eH P f h pts R:=by
 have hl:=fA eW
 subst hn
 refine eH.of hf hb hl fun w g0=>TC.jq fun hM=> ?_
 obtain ⟨e,h1,h2⟩:=jC (m:=0) (hh w g0 hM)
 rw [mA hl h1]
 exact (n7 (N_ h2)).mono fun ex st hl=>GB hl
def endWK (P:Program) (n:Nat) (rv:List ResultVar) (hl q0:Nat) (R:List D→nQ→Prop):Kx:=fun ex e rs=>rj rs 1000000 fun _ row=>sg row 0 fun c=>match c with
 | .ref ⟨k,p,q⟩=>(match p with
  | []=>BR (Nat.beq k 1000001 && Nat.beq q q0) (N9 P n rv 1000001 true hl R ex e rs) False
  | _=>False)
 | _=>False
theorem wg.w {q0:Nat} {R:List D→nQ→Prop} (n:Nat) (hf:P.funcs[f]? = some fn) (hq:row[q0]? = some (.sl sz ds)) 
  (hh:∀ w g0,jq pts→sj 0 pts fun e=>zK row fun cs=>wC P w g0 n c e [(1000001,⟨true,cs⟩),(1000000,⟨false,[.ref ⟨1000001,[],q0⟩]⟩)] (endWK P n fn.results.toList row.length q0 R))
  (hp:pts.map (TS.kill (fun pl=>Nat.beq pl.k cu) fun _=>false)=pts:=by exact rfl)
  (hb:fn.body=some c:=by exact rfl) (hn:fn.ntmps=n:=by exact rfl) (eW:Nat.ble pts.length n=true:=by exact rfl):wg P f row q0 pts R:=by
 have hl:=fA eW
 subst hn
 refine wg.of hf hb hl hp hq fun w g0=>TC.jq fun hM=> ?_
 obtain ⟨e,h1,h2⟩:=jC (m:=0) (hh w g0 hM)
 rw [mA hl h1]
 refine (n7 (oq h2)).mono fun ex st ⟨e,rs,h3,h4⟩=> ?_
 subst h3
 obtain ⟨m,row',h5,h6⟩:=iZ (n:=fn.ntmps) (e:=e) h4
 obtain ⟨c,h7,h8⟩:=iK h6
 split at h8
 ·split at h8
  rotate_left
  ·exact h8.elim
  obtain ⟨h9,mo⟩:=bQ h8
  simp only [bh,Nat.beq_eq] at h9
  obtain ⟨rfl,rfl⟩:=h9
  exact ⟨GB (h:=⟨true,row⟩) ⟨e,rs,rfl,mo⟩,_,h5,h7⟩
 ·exact h8.elim
section
variable {P:Program} {w0:World} {g0:Gh} {st:St}
theorem gJ.call2 {Q:St→Prop} 
  (ho:o.op= .call { callee:= .value cx,args:=args.toArray,argTypes:=qA }) (m9:T.cH 0 st cx=some (.fn f [])) (hf:P.funcs[f]? = some fn) (hb:fn.body.isNone=false)
  (hn : (fn.name == "runtime.NumGoroutine") = false) {ts ts' : List TS} (hx : kV st args = some ts) {h : Hand} {rows : List D} {t : TS} {x : Value} (hc : eH P f h ts' (zx rows t)) {aO : List (Nat × Nat)} {bx : Option Nat}
  (hC:fO st h aO bx 999999) (hs:bk st aO bx h.k ts ts') (hp:qw t=some x)
  (Nx:(st.iJ aO h.mem rows 999999).put o.dst t=bJ) (hq:Q bJ):gJ P w0 g0 o st Q:=fun a w g hR K Q' hK=>by
 have h1:=hR.kV hx
 have h2:=hs.get
 have kX:=hc w (g.hand w.heap.size aO bx h.k) (args.map a.eval).toArray 999999 (by decide) (hR.iJ hC) (by simp [h1.1,h2.1]) (fun i t' u hi hu=>by
  obtain ⟨t,h3,h4⟩:=h2.2 i t' hi
  exact hR.NE hC h4 (h1.2 i t u h3 (by simpa using hu)))
 unfold Oper.wp
 rw [mq hR ho m9 hf hb hn w]
 refine kX.mono fun e w' ⟨v,row',r,g',he,⟨Tc,PW⟩,hG⟩=> ?_
 subst he
 subst Tc
 have h5:=hG.val
 rw [PW] at h5
 have h6:=(iO hp).1 h5
 subst h6
 obtain ⟨g2,DG,_⟩:=hR.Bo hC hG
 exact hK _ _ _ _ hq (Nx ▸ DG.put ((iO hp).2 rfl) o.dst)
end
section
variable {P:Program} {w0:World} {g0:Gh} {st:St}
theorem gJ.call2K {o:Oper} {bJ:St} {Q:St→Prop} {f:FuncId} {cx:Operand} {args:List Operand} {qA:Array TypeId} {fn:Func}
  (ho:o.op= .call { callee:= .value cx,args:=args.toArray,argTypes:=qA }) (m9:T.cH 0 st cx=some (.fn f [])) (hf:P.funcs[f]? = some fn) (hb:fn.body.isNone=false)
  (hn : (fn.name == "runtime.NumGoroutine") = false) {ts ts' : List TS} (hx : kV st args = some ts) {row rows : List D} {q0 : Nat} {t : TS} {x : Value} (hc : wg P f row q0 ts' (zx rows t)) {kb : Nat}
  (hC:fO st ⟨true,row⟩ (fY kb row.length) (some kb) 999999) (hs:bk st (fY kb row.length) (some kb) 1000001 ts ts') (hp:qw t=some x)
  {s i q' sz:Nat} {ds ds':List D} (S5:row[q0]? = some (.sl sz ds)) (Uo:rows[q0]? = some (.sl sz ds')) (hi:i < ds.length) (hi':i < ds'.length) (PC:st.tmps[s]? = some (.one (.ptr ⟨kb,[(q0,i)],q'⟩)))
  (Nx:((st.iJ (fY kb row.length) true rows 999999).put (some s) (.one (.ptr ⟨kb,[(q0,i)],q'⟩))).put o.dst t=bJ) (hq:Q bJ):gJ P w0 g0 o st Q:=fun a w g hR K Q' hK=>by
 have h1:=hR.kV hx
 have h2:=hs.get
 have kX:=hc w (g.hand w.heap.size (fY kb row.length) (some kb) 1000001) (args.map a.eval).toArray 999999 (by decide) (hR.iJ hC) (by simp [h1.1,h2.1]) (fun i t' u hi hu=>by
  obtain ⟨t,h3,h4⟩:=h2.2 i t' hi
  exact hR.NE hC h4 (h1.2 i t u h3 (by simpa using hu)))
 unfold Oper.wp
 rw [mq hR ho m9 hf hb hn w]
 refine kX.mono fun e w' ⟨v,row',r,g',he,⟨Tc,PW⟩,hG,I3⟩=> ?_
 subst he
 subst Tc
 have h5:=hG.val
 rw [PW] at h5
 have h6:=(iO hp).1 h5
 subst h6
 obtain ⟨g2,DG,_,_,gz,_⟩:=hR.Bo hC hG
 obtain ⟨kb',r',e1,e2,e3,e4,e5,e6⟩:=hC.vk rfl
 simp only [ea] at e1
 subst e1
 have hq0l:q0 < row.length:=(aM.1 S5).1
 have hidx:=F2 (kb:=kb) hq0l
 obtain ⟨hv,Z8⟩:=gz kb q0 q0 e6 hidx
 have Z8:=Z8 _ Uo
 have hO1:Ow w g kb [] q0 (.sl sz ds):=by
  obtain ⟨s',h1,h2⟩:=(kG hC.cont).2 q0 _ S5
  have h3:=ff hidx
  rw [h3] at h1
  simp only [ea] at h1
  subst h1
  exact (hR.cellAt h2).1 _ rfl
 have UO:g2.cv kb [] q0=g.cv kb [] q0:=by
  rw [hv,show g'.cv (Hand.k ⟨true,row⟩) [] q0=g'.cv ev [] q0 from rfl,I3]
  have h3:=ff hidx
  simp [Gh.hand,ev,h3]
 have had:g2.ad kb [(q0,i)]=g.ad kb [(q0,i)]:=by
  cases hO1 with
  | nil=>simp at hi
  | sl _ _ _ _ b off n c cs e hc hn hm hnc v7 ho hb hfit hrow had=>
   cases Z8 with
   | nil=>simp at hi'
   | sl _ _ _ _ b2 off2 n2 c2 cs2 e2 Rj hn2 hm2 hnc2 hcm2 ho2 iz Z3 Rr had2=>
    have Rj:g2.cv kb [] q0=_:=Rj
    have hc:g.cv kb [] q0=_:=hc
    rw [UO,hc] at Rj
    injection Rj with e1 e2 e3
    injection e1 with e1
    injection e1 with e4 e5
    subst e4 e5
    have g1:=had i (by omega)
    have g3:=had2 i (by omega)
    simp only [List.nil_append] at g1 g3
    rw [g1,g3]
 have hold:=hR.tm s _ PC
 have hptr:dN w' g2 (.one (.ptr ⟨kb,[(q0,i)],q'⟩)) (a.tmps.getD s undef):=by
  generalize a.tmps.getD s undef=u at hold
  cases hold with
  | one _ _ hu=>cases hu with
   | ptr _=>
    have:=eV.ptr (w:=w') (g:=g2) ⟨kb,[(q0,i)],q'⟩
    simp only [had] at this
    exact .one _ _ this
 have hR3:Rel w0 g0 ((st.iJ (fY kb row.length) true row' 999999).put (some s) (.one (.ptr ⟨kb,[(q0,i)],q'⟩))) a w' g2:=by
  refine ⟨fun j tv hj=> ?_,by simpa [St.put] using DG.sz,DG.df,⟨DG.rt.cell,DG.rt.mem⟩,DG.ks⟩
  simp only [St.put,nN] at hj
  by_cases e:s=j
  subst e
  rw [if_pos rfl] at hj
  split at hj
  simp only [ea] at hj
  subst hj
  exact hptr
  cases hj
  rw [if_neg e] at hj
  exact DG.tm j tv hj
 exact hK _ _ _ _ hq (Nx ▸ hR3.put ((iO hp).2 rfl) o.dst)
end
section
variable {P:Program} {w0:World} {g0:Gh} {st:St} {k1 q0 i0 j sz Rw:Nat} {ds PZ:List D} {e:D} {rt:Rt}
theorem gJ.qC {Um:St} {Q:St→Prop} 
  (ho:o.op= .call { callee:= .value cx,args:=args.toArray,argTypes:=qA }) (m9:T.cH 0 st cx=some (.fn f [])) (hf:P.funcs[f]? = some fn) (hb:fn.body.isNone=false)
  (hn : (fn.name == "runtime.NumGoroutine") = false) {ts ts' : List TS} (hx : kV st args = some ts) {Pw : Nat} {Px : List D} {t : TS} {x : Value} (hc : eH P f ⟨false, [.sl Rw PZ]⟩ ts' (zx [.sl Pw Px] t))
  (hk:st.root k1=some rt) (hq:rt.row[q0]? = some (.own (.sl sz ds))) (he:ds[i0]? = some e) (hj:e.row[j]? = some (.sl Rw PZ))
  (hs:vl k1 q0 i0 j ts ts') (hp:qw t=some x) (hst:st.nest k1 q0 i0 j (.sl Pw Px)=some Um)
  (Nx:Um.put o.dst t=bJ) (hqq:Q bJ):gJ P w0 g0 o st Q:=fun a w g hR K Q' hK=>by
 have h1:=hR.kV hx
 have h2:=hs.get
 have hO:=hR.nestAt hk hq he hj
 have kX:=hc w (g.oT w.heap.size k1 q0 i0 j) (args.map a.eval).toArray 999999 (by decide) (hR.Yf hO) (by simp [h1.1,h2.1]) (fun i t' u hi hu=>by
  obtain ⟨t,h3,h4⟩:=h2.2 i t' hi
  exact hR.giveN h4 (h1.2 i t u h3 (by simpa using hu)))
 unfold Oper.wp
 rw [mq hR ho m9 hf hb hn w]
 refine kX.mono fun e w' ⟨v,row',r,g',he',⟨Tc,PW⟩,hG⟩=> ?_
 subst he'
 subst Tc
 have h5:=hG.val
 rw [PW] at h5
 have h6:=(iO hp).1 h5
 subst h6
 obtain ⟨g2,DG⟩:=hR.uG hk hq he hj hG hst
 exact hK _ _ _ _ hqq (Nx ▸ DG.put ((iO hp).2 rfl) o.dst)
end
def RU (rs:Rs) (aO:List (Nat×Nat)) (m:Bool) (rows:List D):Rs:=((⟨[],rs⟩:St).iJ aO m rows 999999).roots
def Ft (aO:List (Nat×Nat)) (m:Bool) (rows:List D) (e:List En) (rs:Rs) (K:Kn):Prop:=k5 0 rs (RU rs aO m rows) fun rs=>K (.app (TS.kill (wh aO m 999999) (Bn aO 999999)) :: e) rs
theorem AD {aO:List (Nat×Nat)} {m:Bool} {e:List En} {rs:Rs} {K:Kn} (h:Ft aO m rows e rs K):Lg n K ((aZ n e rs).iJ aO m rows 999999):=by
 have h1:(aZ n e rs).iJ aO m rows 999999=aZ n (.app (TS.kill (wh aO m 999999) (Bn aO 999999)) :: e) (RU rs aO m rows):=iY
 rw [h1]
 exact .mk (hU h)
section
variable {P:Program} {w0:World} {g0:Gh} {n:Nat} {e:List En} {rs:Rs} {K:Kn} {f:FuncId} {ts pts:List TS} {dst:Option Nat}
theorem zN (aO:List (Nat×Nat)) (hc:eH P f ⟨false,row⟩ pts (zx rows t)) (hk:Ft aO false rows e rs fun e rs=>mY dst t e rs K) 
  (hC:fO (aZ n e rs) ⟨false,row⟩ aO none 999999:=by exact .list rfl)
  (hs:bk (aZ n e rs) aO none 1000000 ts pts:=by (repeat first|exact .nil|refine bk.cons (.Yc rfl) ?_|refine bk.cons (.c (.ro _)) ?_|refine bk.cons (.c (.hand rfl)) ?_|refine bk.cons (.c (.tS rfl WD.w rfl)) ?_|refine bk.cons (.b9 _) ?_|refine bk.cons (.fn _) ?_|refine bk.cons (.XY _ _ rfl) ?_|refine bk.cons (.agg (by repeat first|exact .nil|refine iA.cons (.ro _) ?_|refine iA.cons (.hand rfl) ?_|refine iA.cons (.tS rfl WD.w rfl) ?_)) ?_);done)
  (hp:qw t=some x:=by exact rfl) (hf:ep P f:=by exact .mk rfl rfl rfl):wi false P w0 g0 n e rs f ts dst K:=⟨fun o cx args qA ho m9 hd hx=>by
 obtain ⟨fn,h1,h2,h3⟩:=hf
 obtain ⟨e1,rs1,h4,h5⟩:=AD (n:=n) hk
 refine gJ.call2 (h:=⟨false,row⟩) ho m9 h1 h2 h3 hx hc hC hs hp rfl ?_
 rw [h4,hd]
 exact gF h5⟩
theorem qD (kb:Nat) (hc:eH P f ⟨true,row⟩ pts (zx rows t)) (hk:Ft (fY kb row.length) true rows e rs fun e rs=>mY dst t e rs K) 
  (hC:fO (aZ n e rs) ⟨true,row⟩ (fY kb row.length) (some kb) 999999:=by exact .bx rfl)
  (hs:bk (aZ n e rs) (fY kb row.length) (some kb) 1000001 ts pts:=by (repeat first|exact .nil|refine bk.cons (.ptr rfl) ?_|refine bk.cons (.Yc rfl) ?_|refine bk.cons (.c (.ro _)) ?_|refine bk.cons (.c (.tS rfl WD.w rfl)) ?_|refine bk.cons (.b9 _) ?_|refine bk.cons (.fn _) ?_|refine bk.cons (.XY _ _ rfl) ?_|refine bk.cons (.agg (by repeat first|exact .nil|refine iA.cons (.ro _) ?_|refine iA.cons (.tS rfl WD.w rfl) ?_)) ?_);done)
  (hp:qw t=some x:=by exact rfl) (hf:ep P f:=by exact .mk rfl rfl rfl):wi false P w0 g0 n e rs f ts dst K:=⟨fun o cx args qA ho m9 hd hx=>by
 obtain ⟨fn,h1,h2,h3⟩:=hf
 obtain ⟨e1,rs1,h4,h5⟩:=AD (n:=n) hk
 refine gJ.call2 (h:=⟨true,row⟩) ho m9 h1 h2 h3 hx hc hC hs hp rfl ?_
 rw [h4,hd]
 exact gF h5⟩
theorem callK (kb q0 s i q':Nat) {ds':List D} (hc:wg P f row q0 pts (zx rows t)) (S5:row[q0]? = some (.sl sz ds)) (Uo:rows[q0]? = some (.sl sz ds')) (hi:i < ds.length) (hi':i < ds'.length) 
  (hk:Ft (fY kb row.length) true rows e rs fun e rs=>mY (some s) (.one (.ptr ⟨kb,[(q0,i)],q'⟩)) e rs fun e rs=>mY dst t e rs K)
  (PC:(aZ n e rs).tmps[s]? = some (.one (.ptr ⟨kb,[(q0,i)],q'⟩)):=by exact rfl)
  (hC:fO (aZ n e rs) ⟨true,row⟩ (fY kb row.length) (some kb) 999999:=by exact .bx rfl)
  (hs:bk (aZ n e rs) (fY kb row.length) (some kb) 1000001 ts pts:=by (repeat first|exact .nil|refine bk.cons (.ptr rfl) ?_|refine bk.cons (.Yc rfl) ?_|refine bk.cons (.c (.ro _)) ?_|refine bk.cons (.c (.tS rfl WD.w rfl)) ?_|refine bk.cons (.b9 _) ?_|refine bk.cons (.fn _) ?_|refine bk.cons (.XY _ _ rfl) ?_|refine bk.cons (.agg (by repeat first|exact .nil|refine iA.cons (.ro _) ?_|refine iA.cons (.tS rfl WD.w rfl) ?_)) ?_);done)
  (hp:qw t=some x:=by exact rfl) (hf:ep P f:=by exact .mk rfl rfl rfl):wi false P w0 g0 n e rs f ts dst K:=⟨fun o cx args qA ho m9 hd hx=>by
 obtain ⟨fn,h1,h2,h3⟩:=hf
 obtain ⟨e1,rs1,h4,h5⟩:=AD (n:=n) hk
 obtain ⟨e2,Kk,h6,h7⟩:=gF (n:=n) h5
 refine gJ.call2K ho m9 h1 h2 h3 hx hc hC hs hp S5 Uo hi hi' PC rfl ?_
 rw [h4,h6,hd]
 exact gF h7⟩
def nestR (rs:Rs) (k1 q0 i0 j:Nat) (m:Bool) (row:List C):Rs:=(((⟨[],rs⟩:St).kill (ez k1 [(q0,i0)] j) (wY k1 [(q0,i0)] j)).cw k1 ⟨m,row⟩).roots
def nestW (k1 q0 i0 j Rw:Nat) (PZ:List D) (d:D) (e:List En) (rs:Rs) (K:Kn):Prop:=rj rs k1 fun m row=>sg row q0 fun c=>match c with
 | .own d0=>(match d0 with
  | .sl sz ds=>Yj ds i0 fun el=>(NM el fun er=>sg er j fun dj=>dj= .sl Rw PZ∧f_ (row.map (C.kill (ez k1 [(q0,i0)] j))) fun row=>CL er j d fun Cz=>LI el Cz fun el'=>CL row q0 (.own (.sl sz (ds.set i0 el'))) fun row=>
    k5 k1 rs (nestR rs k1 q0 i0 j m row) fun rs=>K (.app (m_ k1 [(q0,i0)] j) :: e) rs)
  | _=>False)
 | _=>False
theorem qC (k1 q0 i0 j:Nat) {Rw Pw:Nat} {PZ Px:List D} (hc:eH P f ⟨false,[.sl Rw PZ]⟩ pts (zx [.sl Pw Px] t)) (hk:nestW k1 q0 i0 j Rw PZ (.sl Pw Px) e rs fun e rs=>mY dst t e rs K) 
  (hs:vl k1 q0 i0 j ts pts:=by (repeat first|exact .nil|refine vl.cons .it ?_|refine vl.cons (.ro _) ?_);done)
  (hp:qw t=some x:=by exact rfl) (hf:ep P f:=by exact .mk rfl rfl rfl):wi false P w0 g0 n e rs f ts dst K:=⟨fun o cx args qA ho m9 hd hx=>by
 obtain ⟨fn,h1,h2,h3⟩:=hf
 obtain ⟨m,row,g1,g2⟩:=iZ (n:=n) (e:=e) hk
 obtain ⟨c,g3,g4⟩:=iK g2
 split at g4
 split at g4
 rename_i sz ds
 obtain ⟨el,g5,g6⟩:=Aw g4
 obtain ⟨dj,g7,g8,g9⟩:=iK (yF g6)
 subst g8
 obtain ⟨g10,g11⟩:=ny (dK.1 g9)
 obtain ⟨g12,g13⟩:=ny (CO g11)
 have g14:=hU g13
 have hst:(aZ n e rs).nest k1 q0 i0 j (.sl Pw Px)=some (aZ n (.app (m_ k1 [(q0,i0)] j) :: e) (nestR rs k1 q0 i0 j m ((row.map (C.kill (ez k1 [(q0,i0)] j))).set q0 (.own (.sl sz (ds.set i0 (el.rf (el.row.set j (.sl Pw Px))))))))):=by
  simp only [St.nest,g1,g3,g5]
  rw [← iY (rs:=rs)]
  rfl
 refine gJ.qC ho m9 h1 h2 h3 hx hc g1 g3 g5 g7 hs hp hst rfl ?_
 rw [hd]
 exact gF g14
 exact g4.elim
 exact g4.elim⟩
end
end
section
variable {K:Kn} {aO:List (Nat×Nat)} {cs:List C} {row rows:List D} {kd n:Nat} {rs:Rs}
def ng (P:Program) (f:FuncId) (row:List D) (pts:List TS) (R:nQ→Prop):Prop:=eH P f ⟨false,row⟩ pts fun row' r=>row'=row.map (fun _=> .hole)∧R r
theorem ng.w {P:Program} {f:FuncId} {fn:Func} {c:Code} {pts:List TS} {R:nQ→Prop} (n:Nat) (hf:P.funcs[f]? = some fn) 
  (hh:∀ w g0,jq pts→sj 0 pts fun e=>zK row fun cs=>wC P w g0 n c e [(1000000,⟨false,cs⟩)] (LS P n fn.results.toList R))
  (hb:fn.body=some c:=by exact rfl) (hn:fn.ntmps=n:=by exact rfl) (eW:Nat.ble pts.length n=true:=by exact rfl):ng P f row pts R:=by
 have hl:=fA eW
 subst hn
 refine eH.P1 rfl hf hb hl fun w g0=>TC.jq fun hM=> ?_
 obtain ⟨e,h1,h2⟩:=jC (m:=0) (hh w g0 hM)
 rw [mA hl h1]
 exact (n7 (oq h2)).mono fun ex st hl=>vu hl
def Qp:List D→(List D→Prop)→Prop
 | [],k=>k []
 | _ :: l,k=>Qp l fun l=>k (.hole :: l)
theorem Kv:∀ {l:List D} {k:List D→Prop},Qp l k→k (l.map fun _=> .hole)
 | [],k,h=>h
 | _ :: l,k,h=>Kv (l:=l) h
def LX (rs:Rs) (aO:List (Nat×Nat)) (rows:List D) (kd:Nat) (cs:List C):Rs:=(((⟨[],rs⟩:St).iJ aO false rows kd).cw kd ⟨false,cs⟩).roots
def V6 (aO:List (Nat×Nat)) (rows:List D) (kd:Nat) (cs:List C) (e:List En) (rs:Rs) (K:Kn):Prop:=k5 kd rs (LX rs aO rows kd cs) fun rs=>K (.app (TS.kill (wh aO false kd) (Bn aO kd)) :: e) rs
theorem Tx {e:List En} (h:V6 aO rows kd cs e rs K):∃ e' fZ,((aZ n e rs).iJ aO false rows kd).cw kd ⟨false,cs⟩=aZ n e' fZ∧K e' fZ:=
 ⟨_,_,iY,hU h⟩
section
variable {P:Program} {w0:World} {g0:Gh} {n:Nat} {e:List En} {rs:Rs} {K:Kn} {f:FuncId} {ts pts:List TS} {fV:List TV} {d:Nat}
theorem kf (aO:List (Nat×Nat)) {l:List RD} (hc:ng P f row pts (RG l)) 
  (hk:lG (fh l) fun cd=>Gq cd fun cs=>Qp row fun rows=>V6 aO rows d cs e rs fun e rs=>nR (oO (s9 d 0 l)) fun t=>K (.set d t :: e) rs)
  (hC:fO (aZ n e rs) ⟨false,row⟩ aO none d:=by exact .list rfl)
  (hs:bk (aZ n e rs) aO none 1000000 ts pts:=by (repeat first|exact .nil|refine bk.cons (.c (.ro _)) ?_|refine bk.cons (.c (.hand rfl)) ?_|refine bk.cons (.c (.deep rfl)) ?_|refine bk.cons (.c (.tS rfl WD.w rfl)) ?_|refine bk.cons (.b9 _) ?_|refine bk.cons (.fn _) ?_|refine bk.cons (.XY _ _ rfl) ?_|refine bk.cons (.agg (by repeat first|exact .nil|refine iA.cons (.ro _) ?_|refine iA.cons (.hand rfl) ?_|refine iA.cons (.deep rfl) ?_|refine iA.cons (.tS rfl WD.w rfl) ?_)) ?_);done)
  (hok:(fh l).all Uq=true:=by exact rfl) (hf:ep P f:=by exact .mk rfl rfl rfl):wi false P w0 g0 n e rs f ts (some d) K:=⟨fun o cx args qA ho m9 hd hx=>by
 obtain ⟨fn,h1,h2,h3⟩:=hf
 obtain ⟨e1,rs1,h4,h5⟩:=Tx (n:=n) (Kv (pT (gA.1 hk)))
 refine gJ.call3 (h:=⟨false,row⟩) (T:=(c7 l).val) ho m9 h1 h2 h3 hx hc (fun row' r hr=>⟨hr.1,by rw [hr.2],by rw [hr.2]⟩) hC hs (uD hok) rfl ?_
 show Lg n K _
 rw [show (c7 l).row.map C.own=((fh l).filter zw).map C.own from rfl,h4,hd]
 exact .put (gN.1 h5)⟩
def RX (rows:List D) (l:List RD):List D→nQ→Prop:=fun row' r=>row'=rows∧RG l r
def YF (rs:Rs) (aO:List (Nat×Nat)) (rows:List D) (kd:Nat) (cs:List C):Rs:=(((⟨[],rs⟩:St).iJ aO true rows kd).cw kd ⟨false,cs⟩).roots
def LY (aO:List (Nat×Nat)) (rows:List D) (kd:Nat) (cs:List C) (e:List En) (rs:Rs) (K:Kn):Prop:=k5 kd rs (YF rs aO rows kd cs) fun rs=>K (.app (TS.kill (wh aO true kd) (Bn aO kd)) :: e) rs
theorem GC {e:List En} (h:LY aO rows kd cs e rs K):∃ e' fZ,((aZ n e rs).iJ aO true rows kd).cw kd ⟨false,cs⟩=aZ n e' fZ∧K e' fZ:=
 ⟨_,_,iY,hU h⟩
theorem callXG (kb:Nat) {l:List RD} (hc:eH P f ⟨true,row⟩ pts (RX rows l)) 
  (hk:lG (fh l) fun cd=>Gq cd fun cs=>LY (fY kb row.length) rows d cs e rs fun e rs=>nR (oO (s9 d 0 l)) fun t=>K (.set d t :: e) rs)
  (hC:fO (aZ n e rs) ⟨true,row⟩ (fY kb row.length) (some kb) d:=by exact .bx rfl)
  (hs:bk (aZ n e rs) (fY kb row.length) (some kb) 1000001 ts pts:=by (repeat first|exact .nil|refine bk.cons (.ptr rfl) ?_|refine bk.cons (.fnX _ rfl) ?_|refine bk.cons (.c (.ro _)) ?_|refine bk.cons (.c (.tS rfl WD.w rfl)) ?_|refine bk.cons (.b9 _) ?_|refine bk.cons (.fn _) ?_|refine bk.cons (.XY _ _ rfl) ?_|refine bk.cons (.agg (by repeat first|exact .nil|refine iA.cons (.ro _) ?_|refine iA.cons (.tS rfl WD.w rfl) ?_)) ?_);done)
  (hok:(fh l).all Uq=true:=by exact rfl) (hf:ep P f:=by exact .mk rfl rfl rfl):wi false P w0 g0 n e rs f ts (some d) K:=⟨fun o cx args qA ho m9 hd hx=>by
 obtain ⟨fn,h1,h2,h3⟩:=hf
 obtain ⟨e1,rs1,h4,h5⟩:=GC (n:=n) (pT (gA.1 hk))
 refine gJ.call3 (h:=⟨true,row⟩) (T:=(c7 l).val) ho m9 h1 h2 h3 hx hc (fun row' r hr=>⟨hr.1,by rw [hr.2],by rw [hr.2]⟩) hC hs (uD hok) rfl ?_
 show Lg n K _
 rw [show (c7 l).row.map C.own=((fh l).filter zw).map C.own from rfl,h4,hd]
 exact .put (gN.1 h5)⟩
theorem YG (kb:Nat) {l:List RD} (hc:eH P f ⟨true,row⟩ pts (RX rows l)) 
  (hk:lG (fh l) fun cd=>Gq cd fun cs=>LY (fY kb row.length) rows d cs e rs fun e rs=>nR (oO (s9 d 0 l)) fun t=>K (.set d t :: e) rs)
  (hC:fO (aZ n e rs) ⟨true,row⟩ (fY kb row.length) (some kb) d:=by exact .bx rfl)
  (hs:bk (aZ n e rs) (fY kb row.length) (some kb) 1000001 (ts ++ fV.map TS.one) pts:=by (repeat first|exact .nil|refine bk.cons (.ptr rfl) ?_|refine bk.cons (.c (.ro _)) ?_|refine bk.cons (.c (.tS rfl WD.w rfl)) ?_|refine bk.cons (.b9 _) ?_|refine bk.cons (.fn _) ?_|refine bk.cons (.agg (by repeat first|exact .nil|refine iA.cons (.ro _) ?_|refine iA.cons (.tS rfl WD.w rfl) ?_)) ?_);done)
  (hok:(fh l).all Uq=true:=by exact rfl) (hf:ep P f:=by exact .mk rfl rfl rfl):N6 false P w0 g0 n e rs f ts fV (some d) K:=⟨fun o cx args qA ho m9 hd hx=>by
 obtain ⟨fn,h1,h2,h3⟩:=hf
 obtain ⟨e1,rs1,h4,h5⟩:=GC (n:=n) (pT (gA.1 hk))
 refine gJ.call3C (h:=⟨true,row⟩) (T:=(c7 l).val) ho m9 h1 h2 h3 hx hc (fun row' r hr=>⟨hr.1,by rw [hr.2],by rw [hr.2]⟩) hC hs (uD hok) rfl ?_
 show Lg n K _
 rw [show (c7 l).row.map C.own=((fh l).filter zw).map C.own from rfl,h4,hd]
 exact .put (gN.1 h5)⟩
end
end
end Go.Proofs.YtdliggkohdnipaaGreat.T
