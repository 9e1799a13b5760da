import Derived.Test.YtdliggkohdnipaaGreatRir
import Derived.Test.YtdliggkohdnipaaGreatTzor
set_option linter.unusedVariables false
set_option linter.unusedSimpArgs false
namespace Go.Proofs.YtdliggkohdnipaaGreat.T
open Go
section
variable {d:D} {a i j:Int} {ds:List D} {m n:Nat} {rs:Rs}
theorem cD {k:Prop} (c:k) (lo: -9223372036854775808 ≤ a:=by omega) (hi:a ≤ 9223372036854775807:=by omega):Ox a k:=⟨lo,hi,c⟩
theorem nz {k:Prop} (c:k) (h:a ≠ 0:=by first|decide|omega):NzW a k:=⟨h,c⟩
theorem W3 {k:Nat→Prop} (n:Nat) (c:k n) (h:ds.length=n:=by simp <;> omega):Tq ds k:=⟨n,h,c⟩
theorem fN {α:Type} {f: α→D} {xs:List α} {y: α} {k:D→Prop} (hy:xs[m]? = some y) (c:k (f y)) (h0:i=m:=by omega):IxW (xs.map f) i k:=⟨m,f y,h0,by rw [List.getElem?_map,hy];rfl,c⟩
theorem ixd {k:D→Prop} (hy:ds[m]? = some d) (c:k d) (h0:i=m:=by omega):IxW ds i k:=⟨m,d,h0,hy,c⟩
theorem cS {k:Nat→Prop} (c:k m) (h:m < ds.length:=by simp <;> omega):ZE ds (m:Int) k:=⟨m,rfl,h,c⟩
theorem aZ {k:Nat→Prop} (c:k i.toNat) (h:0 ≤ i∧i < ds.length:=by simp <;> omega):ZE ds i k:=⟨i.toNat,by omega,by omega,c⟩
theorem cut (a b:Nat) {k:Nat→Nat→Prop} (c:k a b) (h0:i=a:=by omega) (h1:j=b:=by omega) (h2:a ≤ b:=by omega) (h3:b ≤ n:=by first|omega|(simp <;> omega)):ZF n i j k:=⟨a,b,h0,h1,h2,h3,c⟩
theorem Z0 {n n':Int} (m:Nat) {k:Nat→Prop} (c:k m) (h:n=m:=by omega) (h':n'=m:=by omega) (hm:m ≤ 134217728:=by omega):TK n n' k:=⟨m,h,h',hm,c⟩
theorem RQ {P:Program} {ty:TypeId} {us vs:List Value} {k:Prop} (c:k) (ht:P.underlying ty=some (.struct (P.fieldsOf ty)):=by exact rfl) (hp:P.stoodInHeld ty=false:=by kernel_rfl) (hm:P.eqGuardType P.depth ty=false:=by kernel_rfl) 
  (hf:qj P 0 (P.fieldsOf ty).toList us vs=true:=by exact rfl):EqA P ty us vs k:=⟨ht,hp,hm,hf,c⟩
theorem vu {α:Type} {inv: α→Prop} {v: α→Nat} {x: α} {E: α→List En} {R: α→Rs} {e:List En} (nm:List (Nat×Nat)) (y: α) (h2:inv y) (h3:EX e rs nm (E y) (R y):=by repeat' first|exact rfl|refine And.intro ?_ ?_|exact True.intro|(refine eV ?_;simp;done)) (h1:v y < v x:=by first|omega|(dsimp only;omega)):Yx inv v x E R e rs:=⟨nm,y,h1,h2,h3⟩
theorem cA {i:Nat} {k:D→Prop} (c:k d) (h:i < ds.length:=by first|omega|(simp only [List.length_set] <;> omega)): @Option.rec D (fun _=>Prop) False k ((ds.set i d)[i]?):=xT (by rw [List.getElem?_set_self h]) c
class Z1 (ds:List D) (n:outParam Nat):Prop where
 h:ds.length=n
instance (priority:=low) (ds:List D):Z1 ds ds.length:=⟨rfl⟩
instance {α:Type} (f: α→D) (xs:List α):Z1 (xs.map f) xs.length:=⟨List.length_map ..⟩
theorem len {k:Nat→Prop} [h:Z1 ds n] (c:k n):Tq ds k:=⟨n,h.h,c⟩
theorem Wa {k:Nat→Prop} (c:k m) (hm:m ≤ 134217728:=by omega):TK (m:Int) (m:Int) k:=⟨m,rfl,rfl,hm,c⟩
theorem cvs {k:Int→Prop} (c:k a) (lo: -9223372036854775808 ≤ a:=by omega) (hi:a ≤ 9223372036854775807:=by omega):Qa .i64 a k:=⟨a,by rw [IntKind.wrap_i64];omega,c⟩
theorem vv {e:List En} {nm:List (Nat×Nat)} {E:List En} {R:Rs} (h:EX e rs nm E R:=by repeat' first|exact rfl|refine And.intro ?_ ?_|exact True.intro|(refine eV ?_;simp;done)):EX e rs nm E R:=h
theorem cutO (a b:Nat) {k:Nat→Nat→Prop} (c:k a b) (h0:i=a:=by omega) (h1:j=b:=by omega) (h2:a < b:=by omega) (h3:b ≤ n:=by first|omega|(simp <;> omega)):CutO n i j k:=⟨a,b,h0,h1,h2,h3,c⟩
end
section
variable {nL:Array TypeId} {c:Code} {fn:Func} {f:FuncId} {ds row rows:List D} {args:List Operand} {pts:List TS} {n sz:Nat} {o:Oper} {cx:Operand} {P:Program} {bD:St} {t:TS} {x:Value}
def Ki:List C→(List D→Prop)→Prop
 | [],k=>k []
 | c :: l,k=>match c with
  | .own d=>Ki l fun l=>k (d :: l)
  | _=>False
theorem IU:∀ {l:List C} {k:List D→Prop},Ki l k→∃ ds,l=ds.map C.own∧k ds
 | [],k,h=>⟨[],rfl,h⟩
 | c :: l,k,h=>by
  unfold Ki at h
  split at h
  obtain ⟨ds,h1,h2⟩:=IU (l:=l) h
  exact ⟨_ :: ds,by simp [h1],h2⟩
  exact h.elim
def Kj (k:Nat):List (Nat×Nat)→Bool
 | []=>true
 | (a,_) :: l=> !(Nat.beq a k) && Kj k l
theorem EZ {k:Nat}:∀ {l:List (Nat×Nat)},Kj k l=true→(l.all fun s=>s.1 != k)=true
 | [],_=>rfl
 | (a,q) :: l,h=>by
  simp only [Kj,Bool.and_eq_true,Bool.not_eq_true'] at h
  have hne:a ≠ k:=fun e=>by subst e;simp at h
  simp only [List.all_cons,Bool.and_eq_true,bne_iff_ne,ne_eq]
  exact ⟨hne,EZ h.2⟩
def Uj (P:Program) (n:Nat) (rv:List ResultVar) (hk:Nat) (hm:Bool) (hl:Nat) (R:List D→mR→Prop) (e:List En) (rs:Rs):Prop:=
 IT P n e rs rv fun cZ=>BR (Nat.ble rv.length 4 && BD (cZ.flatMap fh) && Kj hk (cZ.flatMap fh)) (EY rs (cZ.flatMap fh) fun row=>pz rs hk fun m row'=>BR (m == hm) (Ki row' fun ds=>BR (Nat.beq ds.length hl)
  (R ds ⟨row,fun k=>nx (cZ.map (iH (cZ.flatMap fh) k))⟩) False) False) False
def MD (P:Program) (n:Nat) (rv:List ResultVar) (hk:Nat) (hm:Bool) (hl:Nat) (R:List D→mR→Prop):Kx:=fun ex e rs=>match ex with
 | .normal=>Uj P n rv hk hm hl R e rs
 | .ret=>Uj P n rv hk hm hl R e rs
 | _=>False
theorem E0 {h:Hand} {R:List D→mR→Prop} {ex:Exit} {st:St} (hh:Lf n (MD P n fn.results.toList h.k h.mem h.row.length R) ex st):L_ P fn h R ex st:=by
 obtain ⟨e,rs,rfl,hh⟩:=hh
 have key:Uj P n fn.results.toList h.k h.mem h.row.length R e rs→∀ ex,(ex= .normal ∨ ex= .ret)→L_ P fn h R ex (aR n e rs):=fun hh ex hex=>by
  obtain ⟨cZ,h1,h2⟩:=vt hh
  obtain ⟨h3,h4⟩:=bG h2
  simp only [Bool.and_eq_true] at h3
  obtain ⟨row,h5,h6⟩:=wZ (n:=n) (e:=e) h4
  obtain ⟨m,row',h7,h8⟩:=ir (n:=n) (e:=e) h6
  obtain ⟨h9,kU⟩:=bG h8
  have h9:m=h.mem:=by simpa using h9
  obtain ⟨ds,oW,h12⟩:=IU kU
  obtain ⟨pL,vc⟩:=bG h12
  subst h9
  subst oW
  exact ⟨hex,fn.results.toList,cZ,row,ds,rfl,Nat.le_of_ble_eq_true h3.1.1,h1,wY h3.1.2,h5,h7,Nat.eq_of_beq_eq_true pL,EZ h3.2,vc⟩
 unfold MD at hh
 split at hh
 exact key hh _ (.inl rfl)
 exact key hh _ (.inr rfl)
 exact hh.elim
def Uk (h:Hand) (k:Nat→Bool→Nat→Rs→Prop):Prop:=match h with
 | ⟨m,row⟩=>BR m (xU row fun cs=>k 1000001 true row.length [(1000001,⟨true,cs⟩)]) (xU row fun cs=>k 1000000 false row.length [(1000000,⟨false,cs⟩)])
theorem ME {h:Hand} {k:Nat→Bool→Nat→Rs→Prop} (hh:Uk h k):k h.k h.mem h.row.length [(h.k,⟨h.mem,h.row.map C.own⟩)]:=by
 obtain ⟨m,row⟩:=h
 rcases fY.1 hh with ⟨rfl,h1⟩|⟨rfl,h1⟩
 exact mY h1
 exact mY h1
theorem eA.w {h:Hand} {R:List D→mR→Prop} (n:Nat) (hf:P.funcs[f]? = some fn) 
  (hh:∀ w g0,iI pts→qF 0 pts fun e=>Uk h fun hk hm hl rs=>wC P w g0 n c e rs (MD P n fn.results.toList hk hm hl R))
  (hb:fn.body=some c:=by exact rfl) (hn:fn.ntmps=n:=by exact rfl) (eK:Nat.ble pts.length n=true:=by exact rfl):eA P f h pts R:=by
 have hl:=Nat.le_of_ble_eq_true eK
 subst hn
 refine eA.of hf hb hl fun w g0=>TC.iI fun hM=> ?_
 obtain ⟨e,h1,h2⟩:=iR (m:=0) (hh w g0 hM)
 rw [kW hl h1]
 exact (mJ (ME h2)).mono fun ex st hl=>E0 hl
def endWK (P:Program) (n:Nat) (rv:List ResultVar) (hl q0:Nat) (R:List D→mR→Prop):Kx:=fun ex e rs=>pz rs 1000000 fun _ row=>qD row 0 fun c=>match c with
 | .ref ⟨k,p,q⟩=>(match p with
  | []=>BR (Nat.beq k 1000001 && Nat.beq q q0) (MD P n rv 1000001 true hl R ex e rs) False
  | _=>False)
 | _=>False
theorem uE.w {q0:Nat} {R:List D→mR→Prop} (n:Nat) (hf:P.funcs[f]? = some fn) (hq:row[q0]? = some (.sl sz ds)) 
  (hh:∀ w g0,iI pts→qF 0 pts fun e=>xU row fun cs=>wC P w g0 n c e [(1000001,⟨true,cs⟩),(1000000,⟨false,[.ref ⟨1000001,[],q0⟩]⟩)] (endWK P n fn.results.toList row.length q0 R))
  (hp:pts.map (TS.kill (fun pl=>Nat.beq pl.k cm) fun _=>false)=pts:=by exact rfl)
  (hb:fn.body=some c:=by exact rfl) (hn:fn.ntmps=n:=by exact rfl) (eK:Nat.ble pts.length n=true:=by exact rfl):uE P f row q0 pts R:=by
 have hl:=Nat.le_of_ble_eq_true eK
 subst hn
 refine uE.of hf hb hl hp hq fun w g0=>TC.iI fun hM=> ?_
 obtain ⟨e,h1,h2⟩:=iR (m:=0) (hh w g0 hM)
 rw [kW hl h1]
 refine (mJ (mY h2)).mono fun ex st ⟨e,rs,h3,h4⟩=> ?_
 subst h3
 obtain ⟨m,row',h5,h6⟩:=ir (n:=fn.ntmps) (e:=e) h4
 obtain ⟨c,h7,h8⟩:=hJ h6
 split at h8
 ·split at h8
  rotate_left
  ·exact h8.elim
  obtain ⟨h9,kU⟩:=bG h8
  simp only [Bool.and_eq_true,Nat.beq_eq] at h9
  obtain ⟨rfl,rfl⟩:=h9
  exact ⟨E0 (h:=⟨true,row⟩) ⟨e,rs,rfl,kU⟩,_,h5,h7⟩
 ·exact h8.elim
section
variable {P:Program} {w0:World} {g0:Gh} {st:St}
theorem fX.call2 {Q:St→Prop} 
  (ho:o.op= .call { callee:= .value cx,args:=args.toArray,argTypes:=nL }) (lA:T.cy 0 st cx=some (.fn f [])) (hf:P.funcs[f]? = some fn) (hb:fn.body.isNone=false)
  (hn : (fn.name == "runtime.NumGoroutine") = false) {ts ts' : List TS} (hx : jI st args = some ts) {h : Hand} {rows : List D} {t : TS} {x : Value} (hc : eA P f h ts' (zF rows t)) {aK : List (Nat × Nat)} {bx : Option Nat}
  (hC:eZ st h aK bx 999999) (hs:aX st aK bx h.k ts ts') (hp:oG t=some x)
  (JN:(st.g_ aK h.mem rows 999999).put o.dst t=bD) (hq:Q bD):fX P w0 g0 o st Q:=fun a w g hR K Q' hK=>by
 have h1:=hR.jI hx
 have h2:=hs.get
 have jo:=hc w (g.hand w.heap.size aK bx h.k) (args.map a.eval).toArray 999999 (by decide) (hR.g_ hC) (by simp [h1.1,h2.1]) (fun i t' u hi hu=>by
  obtain ⟨t,h3,h4⟩:=h2.2 i t' hi
  exact hR.Ma hC h4 (h1.2 i t u h3 (by simpa using hu)))
 unfold Oper.wp
 rw [kk hR ho lA hf hb hn w]
 refine jo.mono fun e w' ⟨v,row',r,g',he,⟨LI,Og⟩,hG⟩=> ?_
 subst he
 subst LI
 have h5:=hG.val
 rw [Og] at h5
 have h6:=(gH hp).1 h5
 subst h6
 obtain ⟨g2,Cj,_⟩:=hR.zP hC hG
 exact hK _ _ _ _ hq (JN ▸ Cj.put ((gH hp).2 rfl) o.dst)
end
section
variable {P:Program} {w0:World} {g0:Gh} {st:St}
theorem fX.Z2 {o:Oper} {bD:St} {Q:St→Prop} {f:FuncId} {cx:Operand} {args:List Operand} {nL:Array TypeId} {fn:Func}
  (ho:o.op= .call { callee:= .value cx,args:=args.toArray,argTypes:=nL }) (lA:T.cy 0 st cx=some (.fn f [])) (hf:P.funcs[f]? = some fn) (hb:fn.body.isNone=false)
  (hn : (fn.name == "runtime.NumGoroutine") = false) {ts ts' : List TS} (hx : jI st args = some ts) {row rows : List D} {q0 : Nat} {t : TS} {x : Value} (hc : uE P f row q0 ts' (zF rows t)) {kb : Nat}
  (hC:eZ st ⟨true,row⟩ (fp kb row.length) (some kb) 999999) (hs:aX st (fp kb row.length) (some kb) 1000001 ts ts') (hp:oG t=some x)
  {s i q' sz:Nat} {ds ds':List D} (Sq:row[q0]? = some (.sl sz ds)) (SG:rows[q0]? = some (.sl sz ds')) (hi:i < ds.length) (hi':i < ds'.length) (N0:st.tmps[s]? = some (.one (.ptr ⟨kb,[(q0,i)],q'⟩)))
  (JN:((st.g_ (fp kb row.length) true rows 999999).put (some s) (.one (.ptr ⟨kb,[(q0,i)],q'⟩))).put o.dst t=bD) (hq:Q bD):fX P w0 g0 o st Q:=fun a w g hR K Q' hK=>by
 have h1:=hR.jI hx
 have h2:=hs.get
 have jo:=hc w (g.hand w.heap.size (fp kb row.length) (some kb) 1000001) (args.map a.eval).toArray 999999 (by decide) (hR.g_ hC) (by simp [h1.1,h2.1]) (fun i t' u hi hu=>by
  obtain ⟨t,h3,h4⟩:=h2.2 i t' hi
  exact hR.Ma hC h4 (h1.2 i t u h3 (by simpa using hu)))
 unfold Oper.wp
 rw [kk hR ho lA hf hb hn w]
 refine jo.mono fun e w' ⟨v,row',r,g',he,⟨LI,Og⟩,hG,G_⟩=> ?_
 subst he
 subst LI
 have h5:=hG.val
 rw [Og] at h5
 have h6:=(gH hp).1 h5
 subst h6
 obtain ⟨g2,Cj,_,_,fL,_⟩:=hR.zP hC hG
 obtain ⟨kb',r',e1,e2,e3,e4,e5,e6⟩:=hC.tG rfl
 simp only [Option.some.injEq] at e1
 subst e1
 have hq0l:q0 < row.length:=(List.getElem?_eq_some_iff.1 Sq).1
 have hidx:=Et (kb:=kb) hq0l
 obtain ⟨hv,Yg⟩:=fL kb q0 q0 e6 hidx
 have Yg:=Yg _ SG
 have hO1:Ow w g kb [] q0 (.sl sz ds):=by
  obtain ⟨s',h1,h2⟩:=(jM hC.cont).2 q0 _ Sq
  have h3:=ey hidx
  rw [h3] at h1
  simp only [Option.some.injEq] at h1
  subst h1
  exact (hR.cellAt h2).1 _ rfl
 have SW:g2.cv kb [] q0=g.cv kb [] q0:=by
  rw [hv,show g'.cv (Hand.k ⟨true,row⟩) [] q0=g'.cv dN [] q0 from rfl,G_]
  have h3:=ey hidx
  simp [Gh.hand,dN,h3]
 have had:g2.ad kb [(q0,i)]=g.ad kb [(q0,i)]:=by
  cases hO1 with
  | nil=>simp at hi
  | sl _ _ _ _ b off n c cs e hc hn hm hnc uA ho hb hfit hrow had=>
   cases Yg with
   | nil=>simp at hi'
   | sl _ _ _ _ b2 off2 n2 c2 cs2 e2 PT hn2 hm2 hnc2 hcm2 ho2 gY Yb P1 Zk=>
    have PT:g2.cv kb [] q0=_:=PT
    have hc:g.cv kb [] q0=_:=hc
    rw [SW,hc] at PT
    injection PT with e1 e2 e3
    injection e1 with e1
    injection e1 with e4 e5
    subst e4 e5
    have g1:=had i (by omega)
    have g3:=Zk i (by omega)
    simp only [List.nil_append] at g1 g3
    rw [g1,g3]
 have hold:=hR.tm s _ N0
 have hptr:dy w' g2 (.one (.ptr ⟨kb,[(q0,i)],q'⟩)) (a.tmps.getD s undef):=by
  generalize a.tmps.getD s undef=u at hold
  cases hold with
  | one _ _ hu=>cases hu with
   | ptr _=>
    have:=ef.ptr (w:=w') (g:=g2) ⟨kb,[(q0,i)],q'⟩
    simp only [had] at this
    exact .one _ _ this
 have Zq:Rel w0 g0 ((st.g_ (fp kb row.length) true row' 999999).put (some s) (.one (.ptr ⟨kb,[(q0,i)],q'⟩))) a w' g2:=by
  refine ⟨fun j tv hj=> ?_,by simpa [St.put] using Cj.sz,Cj.df,⟨Cj.rt.cell,Cj.rt.mem⟩,Cj.ks⟩
  simp only [St.put,List.getElem?_set] at hj
  by_cases e:s=j
  subst e
  rw [if_pos rfl] at hj
  split at hj
  simp only [Option.some.injEq] at hj
  subst hj
  exact hptr
  cases hj
  rw [if_neg e] at hj
  exact Cj.tm j tv hj
 exact hK _ _ _ _ hq (JN ▸ Zq.put ((gH hp).2 rfl) o.dst)
end
section
variable {P:Program} {w0:World} {g0:Gh} {st:St} {k1 q0 i0 j sz P6:Nat} {ds Oj:List D} {e:D} {rt:Rt}
theorem fX.qG {Sr:St} {Q:St→Prop} 
  (ho:o.op= .call { callee:= .value cx,args:=args.toArray,argTypes:=nL }) (lA:T.cy 0 st cx=some (.fn f [])) (hf:P.funcs[f]? = some fn) (hb:fn.body.isNone=false)
  (hn : (fn.name == "runtime.NumGoroutine") = false) {ts ts' : List TS} (hx : jI st args = some ts) {NV : Nat} {NW : List D} {t : TS} {x : Value} (hc : eA P f ⟨false, [.sl P6 Oj]⟩ ts' (zF [.sl NV NW] t))
  (hk:st.root k1=some rt) (hq:rt.row[q0]? = some (.own (.sl sz ds))) (he:ds[i0]? = some e) (hj:e.row[j]? = some (.sl P6 Oj))
  (hs:tH k1 q0 i0 j ts ts') (hp:oG t=some x) (hst:st.nest k1 q0 i0 j (.sl NV NW)=some Sr)
  (JN:Sr.put o.dst t=bD) (hqq:Q bD):fX P w0 g0 o st Q:=fun a w g hR K Q' hK=>by
 have h1:=hR.jI hx
 have h2:=hs.get
 have hO:=hR.Zi hk hq he hj
 have jo:=hc w (g.nB w.heap.size k1 q0 i0 j) (args.map a.eval).toArray 999999 (by decide) (hR.WA hO) (by simp [h1.1,h2.1]) (fun i t' u hi hu=>by
  obtain ⟨t,h3,h4⟩:=h2.2 i t' hi
  exact hR.giveN h4 (h1.2 i t u h3 (by simpa using hu)))
 unfold Oper.wp
 rw [kk hR ho lA hf hb hn w]
 refine jo.mono fun e w' ⟨v,row',r,g',he',⟨LI,Og⟩,hG⟩=> ?_
 subst he'
 subst LI
 have h5:=hG.val
 rw [Og] at h5
 have h6:=(gH hp).1 h5
 subst h6
 obtain ⟨g2,Cj⟩:=hR.sS hk hq he hj hG hst
 exact hK _ _ _ _ hqq (JN ▸ Cj.put ((gH hp).2 rfl) o.dst)
end
def Qn (rs:Rs) (aK:List (Nat×Nat)) (m:Bool) (rows:List D):Rs:=((⟨[],rs⟩:St).g_ aK m rows 999999).roots
def DS (aK:List (Nat×Nat)) (m:Bool) (rows:List D) (e:List En) (rs:Rs) (K:Kn):Prop:=j4 0 rs (Qn rs aK m rows) fun rs=>K (.app (TS.kill (uF aK m 999999) (zO aK 999999)) :: e) rs
theorem yN {aK:List (Nat×Nat)} {m:Bool} {e:List En} {rs:Rs} {K:Kn} (h:DS aK m rows e rs K):Lg n K ((aR n e rs).g_ aK m rows 999999):=by
 have h1:(aR n e rs).g_ aK m rows 999999=aR n (.app (TS.kill (uF aK m 999999) (zO aK 999999)) :: e) (Qn rs aK m rows):=iq
 rw [h1]
 exact .mk (gz h)
section
variable {P:Program} {w0:World} {g0:Gh} {n:Nat} {e:List En} {rs:Rs} {K:Kn} {f:FuncId} {ts pts:List TS} {dst:Option Nat}
theorem Af (aK:List (Nat×Nat)) (hc:eA P f ⟨false,row⟩ pts (zF rows t)) (hk:DS aK false rows e rs fun e rs=>lB dst t e rs K) 
  (hC:eZ (aR n e rs) ⟨false,row⟩ aK none 999999:=by exact .list rfl)
  (hs:aX (aR n e rs) aK none 1000000 ts pts:=by (repeat first|exact .nil|refine aX.cons (.Wx rfl) ?_|refine aX.cons (.c (.ro _)) ?_|refine aX.cons (.c (.hand rfl)) ?_|refine aX.cons (.c (.ru rfl WD.w rfl)) ?_|refine aX.cons (.bV _) ?_|refine aX.cons (.fn _) ?_|refine aX.cons (.Wh _ _ rfl) ?_|refine aX.cons (.agg (by repeat first|exact .nil|refine gP.cons (.ro _) ?_|refine gP.cons (.hand rfl) ?_|refine gP.cons (.ru rfl WD.w rfl) ?_)) ?_);done)
  (hp:oG t=some x:=by exact rfl) (hf:dK P f:=by exact .mk rfl rfl rfl):uG false P w0 g0 n e rs f ts dst K:=⟨fun o cx args nL ho lA hd hx=>by
 obtain ⟨fn,h1,h2,h3⟩:=hf
 obtain ⟨e1,Yv,h4,h5⟩:=yN (n:=n) hk
 refine fX.call2 (h:=⟨false,row⟩) ho lA h1 h2 h3 hx hc hC hs hp rfl ?_
 rw [h4,hd]
 exact fR h5⟩
theorem oI (kb:Nat) (hc:eA P f ⟨true,row⟩ pts (zF rows t)) (hk:DS (fp kb row.length) true rows e rs fun e rs=>lB dst t e rs K) 
  (hC:eZ (aR n e rs) ⟨true,row⟩ (fp kb row.length) (some kb) 999999:=by exact .bx rfl)
  (hs:aX (aR n e rs) (fp kb row.length) (some kb) 1000001 ts pts:=by (repeat first|exact .nil|refine aX.cons (.ptr rfl) ?_|refine aX.cons (.Wx rfl) ?_|refine aX.cons (.c (.ro _)) ?_|refine aX.cons (.c (.ru rfl WD.w rfl)) ?_|refine aX.cons (.bV _) ?_|refine aX.cons (.fn _) ?_|refine aX.cons (.Wh _ _ rfl) ?_|refine aX.cons (.agg (by repeat first|exact .nil|refine gP.cons (.ro _) ?_|refine gP.cons (.ru rfl WD.w rfl) ?_)) ?_);done)
  (hp:oG t=some x:=by exact rfl) (hf:dK P f:=by exact .mk rfl rfl rfl):uG false P w0 g0 n e rs f ts dst K:=⟨fun o cx args nL ho lA hd hx=>by
 obtain ⟨fn,h1,h2,h3⟩:=hf
 obtain ⟨e1,Yv,h4,h5⟩:=yN (n:=n) hk
 refine fX.call2 (h:=⟨true,row⟩) ho lA h1 h2 h3 hx hc hC hs hp rfl ?_
 rw [h4,hd]
 exact fR h5⟩
theorem callK (kb q0 s i q':Nat) {ds':List D} (hc:uE P f row q0 pts (zF rows t)) (Sq:row[q0]? = some (.sl sz ds)) (SG:rows[q0]? = some (.sl sz ds')) (hi:i < ds.length) (hi':i < ds'.length) 
  (hk:DS (fp kb row.length) true rows e rs fun e rs=>lB (some s) (.one (.ptr ⟨kb,[(q0,i)],q'⟩)) e rs fun e rs=>lB dst t e rs K)
  (N0:(aR n e rs).tmps[s]? = some (.one (.ptr ⟨kb,[(q0,i)],q'⟩)):=by exact rfl)
  (hC:eZ (aR n e rs) ⟨true,row⟩ (fp kb row.length) (some kb) 999999:=by exact .bx rfl)
  (hs:aX (aR n e rs) (fp kb row.length) (some kb) 1000001 ts pts:=by (repeat first|exact .nil|refine aX.cons (.ptr rfl) ?_|refine aX.cons (.Wx rfl) ?_|refine aX.cons (.c (.ro _)) ?_|refine aX.cons (.c (.ru rfl WD.w rfl)) ?_|refine aX.cons (.bV _) ?_|refine aX.cons (.fn _) ?_|refine aX.cons (.Wh _ _ rfl) ?_|refine aX.cons (.agg (by repeat first|exact .nil|refine gP.cons (.ro _) ?_|refine gP.cons (.ru rfl WD.w rfl) ?_)) ?_);done)
  (hp:oG t=some x:=by exact rfl) (hf:dK P f:=by exact .mk rfl rfl rfl):uG false P w0 g0 n e rs f ts dst K:=⟨fun o cx args nL ho lA hd hx=>by
 obtain ⟨fn,h1,h2,h3⟩:=hf
 obtain ⟨e1,Yv,h4,h5⟩:=yN (n:=n) hk
 obtain ⟨e2,IK,h6,h7⟩:=fR (n:=n) h5
 refine fX.Z2 ho lA h1 h2 h3 hx hc hC hs hp Sq SG hi hi' N0 rfl ?_
 rw [h4,h6,hd]
 exact fR h7⟩
def Yy (rs:Rs) (k1 q0 i0 j:Nat) (m:Bool) (row:List C):Rs:=(((⟨[],rs⟩:St).kill (dP k1 [(q0,i0)] j) (u7 k1 [(q0,i0)] j)).cq k1 ⟨m,row⟩).roots
def nestW (k1 q0 i0 j P6:Nat) (Oj:List D) (d:D) (e:List En) (rs:Rs) (K:Kn):Prop:=pz rs k1 fun m row=>qD row q0 fun c=>match c with
 | .own d0=>(match d0 with
  | .sl sz ds=>WG ds i0 fun el=>(Mi el fun er=>qD er j fun dj=>dj= .sl P6 Oj∧fu (row.map (C.kill (dP k1 [(q0,i0)] j))) fun row=>Bu er j d fun Bi=>J7 el Bi fun el'=>Bu row q0 (.own (.sl sz (ds.set i0 el'))) fun row=>
    j4 k1 rs (Yy rs k1 q0 i0 j m row) fun rs=>K (.app (lM k1 [(q0,i0)] j) :: e) rs)
  | _=>False)
 | _=>False
theorem qG (k1 q0 i0 j:Nat) {P6 NV:Nat} {Oj NW:List D} (hc:eA P f ⟨false,[.sl P6 Oj]⟩ pts (zF [.sl NV NW] t)) (hk:nestW k1 q0 i0 j P6 Oj (.sl NV NW) e rs fun e rs=>lB dst t e rs K) 
  (hs:tH k1 q0 i0 j ts pts:=by (repeat first|exact .nil|refine tH.cons .it ?_|refine tH.cons (.ro _) ?_);done)
  (hp:oG t=some x:=by exact rfl) (hf:dK P f:=by exact .mk rfl rfl rfl):uG false P w0 g0 n e rs f ts dst K:=⟨fun o cx args nL ho lA hd hx=>by
 obtain ⟨fn,h1,h2,h3⟩:=hf
 obtain ⟨m,row,g1,g2⟩:=ir (n:=n) (e:=e) hk
 obtain ⟨c,g3,g4⟩:=hJ g2
 split at g4
 split at g4
 rename_i sz ds
 obtain ⟨el,g5,g6⟩:=yI g4
 obtain ⟨dj,g7,g8,g9⟩:=hJ (wK g6)
 subst g8
 obtain ⟨g10,g11⟩:=lZ (dw.1 g9)
 obtain ⟨g12,g13⟩:=lZ (Bx g11)
 have g14:=gz g13
 have hst:(aR n e rs).nest k1 q0 i0 j (.sl NV NW)=some (aR n (.app (lM k1 [(q0,i0)] j) :: e) (Yy rs k1 q0 i0 j m ((row.map (C.kill (dP k1 [(q0,i0)] j))).set q0 (.own (.sl sz (ds.set i0 (el.pn (el.row.set j (.sl NV NW))))))))):=by
  simp only [St.nest,g1,g3,g5]
  rw [← iq (rs:=rs)]
  rfl
 refine fX.qG ho lA h1 h2 h3 hx hc g1 g3 g5 g7 hs hp hst rfl ?_
 rw [hd]
 exact fR g14
 exact g4.elim
 exact g4.elim⟩
end
end
section
variable {K:Kn} {aK:List (Nat×Nat)} {cs:List C} {row rows:List D} {kd n:Nat} {rs:Rs}
def lO (P:Program) (f:FuncId) (row:List D) (pts:List TS) (R:mR→Prop):Prop:=eA P f ⟨false,row⟩ pts fun row' r=>row'=row.map (fun _=> .hole)∧R r
theorem lO.w {P:Program} {f:FuncId} {fn:Func} {c:Code} {pts:List TS} {R:mR→Prop} (n:Nat) (hf:P.funcs[f]? = some fn) 
  (hh:∀ w g0,iI pts→qF 0 pts fun e=>xU row fun cs=>wC P w g0 n c e [(1000000,⟨false,cs⟩)] (Kh P n fn.results.toList R))
  (hb:fn.body=some c:=by exact rfl) (hn:fn.ntmps=n:=by exact rfl) (eK:Nat.ble pts.length n=true:=by exact rfl):lO P f row pts R:=by
 have hl:=Nat.le_of_ble_eq_true eK
 subst hn
 refine eA.Om rfl hf hb hl fun w g0=>TC.iI fun hM=> ?_
 obtain ⟨e,h1,h2⟩:=iR (m:=0) (hh w g0 hM)
 rw [kW hl h1]
 exact (mJ (mY h2)).mono fun ex st hl=>tQ hl
def ON:List D→(List D→Prop)→Prop
 | [],k=>k []
 | _ :: l,k=>ON l fun l=>k (.hole :: l)
theorem IV:∀ {l:List D} {k:List D→Prop},ON l k→k (l.map fun _=> .hole)
 | [],k,h=>h
 | _ :: l,k,h=>IV (l:=l) h
def Kk (rs:Rs) (aK:List (Nat×Nat)) (rows:List D) (kd:Nat) (cs:List C):Rs:=(((⟨[],rs⟩:St).g_ aK false rows kd).cq kd ⟨false,cs⟩).roots
def Ul (aK:List (Nat×Nat)) (rows:List D) (kd:Nat) (cs:List C) (e:List En) (rs:Rs) (K:Kn):Prop:=j4 kd rs (Kk rs aK rows kd cs) fun rs=>K (.app (TS.kill (uF aK false kd) (zO aK kd)) :: e) rs
theorem RR {e:List En} (h:Ul aK rows kd cs e rs K):∃ e' fq,((aR n e rs).g_ aK false rows kd).cq kd ⟨false,cs⟩=aR n e' fq∧K e' fq:=
 ⟨_,_,iq,gz h⟩
section
variable {P:Program} {w0:World} {g0:Gh} {n:Nat} {e:List En} {rs:Rs} {K:Kn} {f:FuncId} {ts pts:List TS} {fk:List TV} {d:Nat}
theorem jr (aK:List (Nat×Nat)) {l:List RD} (hc:lO P f row pts (RG l)) 
  (hk:kv (ez l) fun cd=>EP cd fun cs=>ON row fun rows=>Ul aK rows d cs e rs fun e rs=>mw (nx (rE d 0 l)) fun t=>K (.set d t :: e) rs)
  (hC:eZ (aR n e rs) ⟨false,row⟩ aK none d:=by exact .list rfl)
  (hs:aX (aR n e rs) aK none 1000000 ts pts:=by (repeat first|exact .nil|refine aX.cons (.c (.ro _)) ?_|refine aX.cons (.c (.hand rfl)) ?_|refine aX.cons (.c (.deep rfl)) ?_|refine aX.cons (.c (.ru rfl WD.w rfl)) ?_|refine aX.cons (.bV _) ?_|refine aX.cons (.fn _) ?_|refine aX.cons (.Wh _ _ rfl) ?_|refine aX.cons (.agg (by repeat first|exact .nil|refine gP.cons (.ro _) ?_|refine gP.cons (.hand rfl) ?_|refine gP.cons (.deep rfl) ?_|refine gP.cons (.ru rfl WD.w rfl) ?_)) ?_);done)
  (hok:(ez l).all Su=true:=by exact rfl) (hf:dK P f:=by exact .mk rfl rfl rfl):uG false P w0 g0 n e rs f ts (some d) K:=⟨fun o cx args nL ho lA hd hx=>by
 obtain ⟨fn,h1,h2,h3⟩:=hf
 obtain ⟨e1,Yv,h4,h5⟩:=RR (n:=n) (IV (oe (fM.1 hk)))
 refine fX.call3 (h:=⟨false,row⟩) (T:=(cR l).val) ho lA h1 h2 h3 hx hc (fun row' r hr=>⟨hr.1,by rw [hr.2],by rw [hr.2]⟩) hC hs (sQ hok) rfl ?_
 show Lg n K _
 rw [show (cR l).row.map C.own=((ez l).filter xL).map C.own from rfl,h4,hd]
 exact .put (fZ.1 h5)⟩
def RX (rows:List D) (l:List RD):List D→mR→Prop:=fun row' r=>row'=rows∧RG l r
def W4 (rs:Rs) (aK:List (Nat×Nat)) (rows:List D) (kd:Nat) (cs:List C):Rs:=(((⟨[],rs⟩:St).g_ aK true rows kd).cq kd ⟨false,cs⟩).roots
def Kl (aK:List (Nat×Nat)) (rows:List D) (kd:Nat) (cs:List C) (e:List En) (rs:Rs) (K:Kn):Prop:=j4 kd rs (W4 rs aK rows kd cs) fun rs=>K (.app (TS.kill (uF aK true kd) (zO aK kd)) :: e) rs
theorem E1 {e:List En} (h:Kl aK rows kd cs e rs K):∃ e' fq,((aR n e rs).g_ aK true rows kd).cq kd ⟨false,cs⟩=aR n e' fq∧K e' fq:=
 ⟨_,_,iq,gz h⟩
theorem Z3 (kb:Nat) {l:List RD} (hc:eA P f ⟨true,row⟩ pts (RX rows l)) 
  (hk:kv (ez l) fun cd=>EP cd fun cs=>Kl (fp kb row.length) rows d cs e rs fun e rs=>mw (nx (rE d 0 l)) fun t=>K (.set d t :: e) rs)
  (hC:eZ (aR n e rs) ⟨true,row⟩ (fp kb row.length) (some kb) d:=by exact .bx rfl)
  (hs:aX (aR n e rs) (fp kb row.length) (some kb) 1000001 ts pts:=by (repeat first|exact .nil|refine aX.cons (.ptr rfl) ?_|refine aX.cons (.fnX _ rfl) ?_|refine aX.cons (.c (.ro _)) ?_|refine aX.cons (.c (.ru rfl WD.w rfl)) ?_|refine aX.cons (.bV _) ?_|refine aX.cons (.fn _) ?_|refine aX.cons (.Wh _ _ rfl) ?_|refine aX.cons (.agg (by repeat first|exact .nil|refine gP.cons (.ro _) ?_|refine gP.cons (.ru rfl WD.w rfl) ?_)) ?_);done)
  (hok:(ez l).all Su=true:=by exact rfl) (hf:dK P f:=by exact .mk rfl rfl rfl):uG false P w0 g0 n e rs f ts (some d) K:=⟨fun o cx args nL ho lA hd hx=>by
 obtain ⟨fn,h1,h2,h3⟩:=hf
 obtain ⟨e1,Yv,h4,h5⟩:=E1 (n:=n) (oe (fM.1 hk))
 refine fX.call3 (h:=⟨true,row⟩) (T:=(cR l).val) ho lA h1 h2 h3 hx hc (fun row' r hr=>⟨hr.1,by rw [hr.2],by rw [hr.2]⟩) hC hs (sQ hok) rfl ?_
 show Lg n K _
 rw [show (cR l).row.map C.own=((ez l).filter xL).map C.own from rfl,h4,hd]
 exact .put (fZ.1 h5)⟩
theorem W5 (kb:Nat) {l:List RD} (hc:eA P f ⟨true,row⟩ pts (RX rows l)) 
  (hk:kv (ez l) fun cd=>EP cd fun cs=>Kl (fp kb row.length) rows d cs e rs fun e rs=>mw (nx (rE d 0 l)) fun t=>K (.set d t :: e) rs)
  (hC:eZ (aR n e rs) ⟨true,row⟩ (fp kb row.length) (some kb) d:=by exact .bx rfl)
  (hs:aX (aR n e rs) (fp kb row.length) (some kb) 1000001 (ts ++ fk.map TS.one) pts:=by (repeat first|exact .nil|refine aX.cons (.ptr rfl) ?_|refine aX.cons (.c (.ro _)) ?_|refine aX.cons (.c (.ru rfl WD.w rfl)) ?_|refine aX.cons (.bV _) ?_|refine aX.cons (.fn _) ?_|refine aX.cons (.agg (by repeat first|exact .nil|refine gP.cons (.ro _) ?_|refine gP.cons (.ru rfl WD.w rfl) ?_)) ?_);done)
  (hok:(ez l).all Su=true:=by exact rfl) (hf:dK P f:=by exact .mk rfl rfl rfl):MA false P w0 g0 n e rs f ts fk (some d) K:=⟨fun o cx args nL ho lA hd hx=>by
 obtain ⟨fn,h1,h2,h3⟩:=hf
 obtain ⟨e1,Yv,h4,h5⟩:=E1 (n:=n) (oe (fM.1 hk))
 refine fX.Zt (h:=⟨true,row⟩) (T:=(cR l).val) ho lA h1 h2 h3 hx hc (fun row' r hr=>⟨hr.1,by rw [hr.2],by rw [hr.2]⟩) hC hs (sQ hok) rfl ?_
 show Lg n K _
 rw [show (cR l).row.map C.own=((ez l).filter xL).map C.own from rfl,h4,hd]
 exact .put (fZ.1 h5)⟩
end
end
end Go.Proofs.YtdliggkohdnipaaGreat.T
