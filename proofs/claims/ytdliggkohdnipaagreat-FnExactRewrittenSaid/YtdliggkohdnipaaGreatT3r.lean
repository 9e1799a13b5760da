import Derived.Test.YtdliggkohdnipaaGreatT2r
import Derived.ChangeKeysEq
import Derived.Orders
import Derived.Laws.Tables
set_option linter.unusedVariables false
set_option linter.unusedSimpArgs false
namespace Go.Proofs.YtdliggkohdnipaaGreat.T
open Go
section
variable {P:Program} {w0:World} {g0:Gh} {st:St}
def xS:Value→Value→Bool
 | .bool a, .bool b=>a == b
 | .int _ a, .int _ b=>a == b
 | .string a, .string b=>a.toList == b.toList
 | _,_=>false
def jN:List Value→List Value→Bool
 | [],[]=>true
 | x :: xs,y :: ys=>xS x y && jN xs ys
 | _,_=>false
def kindOk (P:Program) (t:TypeId):Value→Value→Bool
 | .bool _, .bool _=>match P.underlying t with|some .bool=>true|_=>false
 | .int k _, .int k' _=>match P.underlying t with|some (.int _)=>decide (k=k')|_=>false
 | .string _, .string _=>match P.underlying t with|some .string=>true|_=>false
 | _,_=>false
def qj (P:Program):Nat→List Field→List Value→List Value→Bool
 | _,[],[],[]=>true
 | i, f :: fs, x :: xs, y :: ys => f.name != "_" && f.offset == i && kindOk P f.type x y && qj P (i + 1) fs xs ys
 | _,_,_,_=>false
theorem Oc {t:TypeId} {x y:Value} (h:kindOk P t x y=true) (d:Nat) (w:World):(Op.equalIn (d + 1) t x y).run P w= .ok (xS x y) w∧(isAgg t).run P w= .ok false w:=by
 unfold kindOk at h
 split at h
 split at h
 rename_i hu
 exact ⟨run_equalIn_bool' w d t _ _ hu,gO (by simp [u9,hu]) w⟩
 cases h
 split at h
 rename_i hu
 have:=of_decide_eq_true h
 subst this
 exact ⟨run_equalIn_int w d t _ _ _ _ hu,gO (by simp [u9,hu]) w⟩
 cases h
 split at h
 rename_i hu
 exact ⟨run_equalIn_string w d t _ _ hu,gO (by simp [u9,hu]) w⟩
 cases h
 cases h
theorem tF (w:World) (d:Nat):∀ (fs:List Field) (i:Nat) (xs ys Y_ Za:List Value),qj P i fs xs ys=true→Y_.drop i=xs→Za.drop i=ys→
  (Op.eqFields (d + 1) Y_.toArray Za.toArray fs).run P w= .ok (jN xs ys) w
 | [],i,xs,ys,Y_,Za,h,hx,hy=>by
  cases xs with
  | nil=>
   cases ys with
   | nil=>simp [Op.eqFields,jN]
   | cons y ys=>cases h
  | cons x xs=>cases h
 | f :: fs,i,xs,ys,Y_,Za,h,hx,hy=>by
  cases xs with
  | nil=>cases h
  | cons x xs=>
   cases ys with
   | nil=>cases h
   | cons y ys=>
    simp only [qj,Bool.and_eq_true,bne_iff_ne,ne_eq,beq_iff_eq] at h
    obtain ⟨⟨⟨h1,h2⟩,h3⟩,h4⟩:=h
    obtain ⟨h5,h6⟩:=Oc (P:=P) h3 d w
    have gx:Y_[i]? = some x:=by
     have:=congrArg (·[0]?) hx
     simpa using this
    have gy:Za[i]? = some y:=by
     have:=congrArg (·[0]?) hy
     simpa using this
    have px:(part f.type Y_.toArray f.offset).run P w= .ok x w:=by simp [part,h6,h2,gx]
    have py:(part f.type Za.toArray f.offset).run P w= .ok y w:=by simp [part,h6,h2,gy]
    have ih:=tF w d fs (i + 1) xs ys Y_ Za h4 (by rw [← List.drop_drop,hx];rfl) (by rw [← List.drop_drop,hy];rfl)
    simp only [Op.eqFields,h1,ne_eq,not_false_eq_true,if_true,Sem.run_bind,px,py,h5,Result.andThen_ok,jN]
    cases hv:xS x y
    simp
    simpa using ih
def Io:TS→Option (List Value)
 | .one (.agg cs)=>Cm cs
 | _=>none
theorem wF {a:Act} {w:World} {g:Gh} {x:Operand} {t:TS} {us:List Value} (hR:Rel w0 g0 st a w g) (hx:T.cy 0 st x=some t) (h:Io t=some us):a.eval x= .agg us.toArray:=by
 have h1:=hR.cy hx
 unfold Io at h
 split at h
 generalize a.eval x=v at h1 ⊢
 cases h1 with
 | one _ _ h1=>
  cases h1 with
  | agg _ vs hs hvv=>
   have h2:=Bn (w:=w) (g:=g) h
   have:=(h2.2 vs.toList (by simpa using hs)).1 fun j c u hj hu=>hvv j c u hj (by simpa using hu)
   rw [← this]
 cases h
section
variable {o:Oper} {x y:Operand} {ty ty':TypeId} {t1 t2:TS} {us vs:List Value}
theorem dQ.eqlA (ho:o.op= .binOp .eql ty x y ty') (hx:T.cy 0 st x=some t1) (h1:Io t1=some us) (hy:T.cy 0 st y=some t2) (h2:Io t2=some vs)
  (ht:P.underlying ty=some (.struct (P.fieldsOf ty))) (hp:P.stoodInHeld ty=false) (hm:P.eqGuardType P.depth ty=false) (hf:qj P 0 (P.fieldsOf ty).toList us vs=true):dQ P w0 g0 o st (B (jN us vs)):=
 fun a w g hR=>⟨.bool (jN us vs),fun w' _=>by
  have hrun:=(run_equalIn_struct (P:=P) w' 9999 ty us.toArray vs.toArray ht hp).trans (tF (P:=P) w' 9998 _ 0 us vs us vs hf rfl rfl)
  simp [execOp,ho,wF hR hx h1,wF hR hy h2,run_eqGuard_agg,hm,run_eql_struct,hrun],yw rfl⟩
theorem dQ.neqA (ho:o.op= .binOp .neq ty x y ty') (hx:T.cy 0 st x=some t1) (h1:Io t1=some us) (hy:T.cy 0 st y=some t2) (h2:Io t2=some vs)
  (ht:P.underlying ty=some (.struct (P.fieldsOf ty))) (hp:P.stoodInHeld ty=false) (hm:P.eqGuardType P.depth ty=false) (hf:qj P 0 (P.fieldsOf ty).toList us vs=true):dQ P w0 g0 o st (B !(jN us vs)):=
 fun a w g hR=>⟨.bool !(jN us vs),fun w' _=>by
  have hrun:=(run_equalIn_struct (P:=P) w' 9999 ty us.toArray vs.toArray ht hp).trans (tF (P:=P) w' 9998 _ 0 us vs us vs hf rfl rfl)
  simp [execOp,ho,wF hR hx h1,wF hR hy h2,run_eqGuard_agg,hm,run_neq_struct,hrun],yw rfl⟩
end
theorem TQ.Zb {ops:Array Oper} {o:Oper} {rest:List Oper} {bD:St} {Q:St→Prop} {t:TS} {j:Nat} {want b:Bool} (hg:o.guard=some (j,want)) (hb:guardOf ops st j=some (V (.bool b)))
  (he:b=want) (h:dQ P w0 g0 o st t) (hp:st.put o.dst t=bD) (hq:TQ P w0 g0 ops rest bD Q):TQ P w0 g0 ops (o :: rest) st Q:=TQ.mI hg hb he h (hp ▸ hq)
def yes (ops:Array Oper) (st:St) (o:Oper):Prop:=o.guard=none ∨ ∃ j want b,o.guard=some (j,want)∧guardOf ops st j=some (V (.bool b))∧b=want
theorem ql {ops:Array Oper} {o:Oper} {a:Act} {w:World} {g:Gh} (h:yes ops st o) (hR:Rel w0 g0 st a w g):Region.wanted o (yielded ops a.tmps)=true:=by
 rcases h with h|⟨j,want,b,h1,h2,h3⟩
 simp [Region.wanted,h]
 simp [Region.wanted,h1,yx hR h2,h3]
theorem S8 {ops:Array Oper} {o:Oper} (h:o.guard=none):yes ops st o:= .inl h
theorem L4 {ops:Array Oper} {o:Oper} {j:Nat} {want b:Bool} (hg:o.guard=some (j,want)) (hb:guardOf ops st j=some (V (.bool b))) (he:b=want):yes ops st o:= .inr ⟨j,want,b,hg,hb,he⟩
theorem kk {a:Act} {w:World} {g:Gh} {o:Oper} {f:FuncId} {cx:Operand} {args:List Operand} {nL:Array TypeId} {fn:Func} (hR:Rel w0 g0 st a w g)
  (ho:o.op= .call { callee:= .value cx,args:=args.toArray,argTypes:=nL }) (lA:T.cy 0 st cx=some (.fn f [])) (hf:P.funcs[f]? = some fn) (hb:fn.body.isNone=false)
  (hn : (fn.name == "runtime.NumGoroutine") = false) (w' : World) : (execOp a.eval o).run P w' = .ok (.enter f (args.map a.eval).toArray) w' := by
 have he:a.eval cx= .func (.func f) #[] #[]:=by
  have h1:=hR.cy lA
  generalize a.eval cx=v at h1
  cases h1 with
  | fn _ _ us hs h=>
   have:us= #[]:=Array.eq_empty_of_size_eq_zero (by simpa using hs)
   rw [this]
 have hn' : ¬ fn.name = "runtime.NumGoroutine" := by simpa using hn
 have hb':¬ fn.body=none:=fun e=>by rw [e] at hb;cases hb
 simp [execOp,ho,resolve,he,Deferred.ofValue,invoke,callFunc,hf,hn',hb']
theorem TL.P5 {ops:Array Oper} {o:Oper} {rest:List Oper} {bD:St} {Q:St→Prop} (hg:yes ops st o) {f:FuncId} {cx:Operand} {args:List Operand} {nL:Array TypeId} {fn:Func}
  (ho:o.op= .call { callee:= .value cx,args:=args.toArray,argTypes:=nL }) (lA:T.cy 0 st cx=some (.fn f [])) (hf:P.funcs[f]? = some fn) (hb:fn.body.isNone=false)
  (hn : (fn.name == "runtime.NumGoroutine") = false) {ts ts' : List TS} (hx : jI st args = some ts) {t : TS} {x : Value} (hc : xI P w0 g0 f ts' (RP t)) (hs : rD st ts ts') (hp : oG t = some x)
  (JN:st.put o.dst t=bD) (hq:TL P w0 g0 ops rest bD Q):TL P w0 g0 ops (o :: rest) st Q:=fun a w g hR Q' hQ=>wpList_step fun K hK=>by
 rw [if_pos (ql hg hR)]
 have h1:=hR.jI hx
 have h2:=hs.get
 have jo:=hc w hR.ks.kept { g with o:=ij w } (args.map a.eval).toArray 0 rfl (by simp [h1.1,h2.1]) (fun i t' u hi hu=>by
  obtain ⟨t,h3,h4⟩:=h2.2 i t' hi
  exact hR.ru h4 (h1.2 i t u h3 (by simpa using hu)) _ rfl)
 unfold Oper.wp
 rw [kk hR ho lA hf hb hn w]
 refine jo.mono fun e w' ⟨v,r,g',he,hr,hG⟩=> ?_
 subst he
 have h5:=hG.val
 rw [hr] at h5
 have h6:=(gH hp).1 h5
 subst h6
 have hU:=hR.later (w':=w') ⟨hG.os,hG.tape,hG.output,hG.size,hG.block⟩
 exact hK _ _ (hq _ _ _ (JN ▸ hU.put ((gH hp).2 rfl) o.dst) Q' hQ)
theorem TQ.P5 {ops:Array Oper} {o:Oper} {rest:List Oper} {bD:St} {Q:St→Prop} (hg:yes ops st o) {f:FuncId} {cx:Operand} {args:List Operand} {nL:Array TypeId} {fn:Func}
  (ho:o.op= .call { callee:= .value cx,args:=args.toArray,argTypes:=nL }) (lA:T.cy 0 st cx=some (.fn f [])) (hf:P.funcs[f]? = some fn) (hb:fn.body.isNone=false)
  (hn : (fn.name == "runtime.NumGoroutine") = false) {ts ts' : List TS} (hx : jI st args = some ts) {t : TS} {x : Value} (hc : xI P w0 g0 f ts' (RP t)) (hs : rD st ts ts') (hp : oG t = some x)
  (JN:st.put o.dst t=bD) (hq:TQ P w0 g0 ops rest bD Q):TQ P w0 g0 ops (o :: rest) st Q:=fun a w g hR Q' hQ=>by
 refine wpQuiet_step fun K hK=> ?_
 rw [if_pos (ql hg hR)]
 refine ⟨x,fun w' CX=> ?_,hK _ (hq _ _ _ (JN ▸ hR.put ((gH hp).2 rfl) o.dst) Q' hQ)⟩
 have hU:=hR.later CX
 have h1:=hU.jI hx
 have h2:=hs.get
 have jo:=hc w' hU.ks.kept { g with o:=ij w' } (args.map a.eval).toArray 0 rfl (by simp [h1.1,h2.1]) (fun i t' u hi hu=>by
  obtain ⟨t,h3,h4⟩:=h2.2 i t' hi
  exact hU.ru h4 (h1.2 i t u h3 (by simpa using hu)) _ rfl)
 unfold Oper.quietAt
 rw [kk hR ho lA hf hb hn w']
 refine ⟨rfl,jo.mono fun e w'' ⟨v,r,g',he,V7,hG⟩=> ?_⟩
 have h5:=hG.val
 rw [V7] at h5
 have h6:=(gH hp).1 h5
 subst h6
 exact ⟨he,CX.trans ⟨hG.os,hG.tape,hG.output,hG.size,hG.block⟩⟩
inductive Eo (st:St):C→C→Prop
 | ro (d:D):Eo st (.ro d) (.ro d)
 | ref {pl:Pl} {d:D} (h:st.cellAt pl=some (.own d)) (hw:Whole d):Eo st (.ref pl) (.ro d)
inductive vi (st:St):List C→List C→Prop
 | nil:vi st [] []
 | cons {c c':C} {l l':List C} (h:Eo st c c') (hl:vi st l l'):vi st (c :: l) (c' :: l')
theorem vi.get {cs cs':List C} (h:vi st cs cs'):cs'.length=cs.length∧∀ (j:Nat) c c',cs[j]? = some c→cs'[j]? = some c'→Eo st c c':=by
 induction h with
 | nil=>exact ⟨rfl,fun j c c' h1=>by simp at h1⟩
 | cons h hl ih=>
  refine ⟨by simp [ih.1],fun j c c' h1 h2=> ?_⟩
  cases j with
  | zero=>
   simp only [List.getElem?_cons_zero,Option.some.injEq] at h1 h2
   subst h1;subst h2
   exact h
  | succ j=>exact ih.2 j c c' (by simpa using h1) (by simpa using h2)
theorem xH.aggR {cs cs':List C} (h:vi st cs cs'):xH st (.one (.agg cs)) (.one (.agg cs')):=
 .agg cs cs' h.get.1 fun j c c' h1 h2=>by
  cases h.get.2 j c c' h1 h2 with
  | ro d=>exact .inl ⟨d,rfl,rfl⟩
  | ref h hw=>exact .inr ⟨_,_,rfl,rfl,h,hw⟩
inductive RD where
 | c (d:D)
 | a (ds:List D)
def xL:D→Bool
 | .sl _ _=>true
 | _=>false
def Ws (k j:Nat):D→C
 | .sl _ _=> .ref ⟨k,[],j⟩
 | d=> .ro d
def vj (j:Nat):D→Nat
 | .sl _ _=>j + 1
 | _=>j
def uD (k:Nat):Nat→List D→List C
 | _,[]=>[]
 | j,d :: l=>Ws k j d :: uD k (vj j d) l
def yD:Nat→List D→Nat
 | j,[]=>j
 | j,d :: l=>yD (vj j d) l
def rE (k:Nat):Nat→List RD→List TV
 | _,[]=>[]
 | j, .c d :: l=> .c (Ws k j d) :: rE k (vj j d) l
 | j, .a ds :: l=> .agg (uD k j ds) :: rE k (yD j ds) l
def ez:List RD→List D
 | []=>[]
 | .c d :: l=>d :: ez l
 | .a ds :: l=>ds ++ ez l
def cR (l:List RD):mR:=⟨(ez l).filter xL,fun k=>nx (rE k 0 l)⟩
abbrev RG (l:List RD):mR→Prop:=fun r=>r=cR l
def Su:D→Bool
 | .v _=>true
 | .sl _ _=>true
 | _=>false
theorem L5 {k j n:Nat} {d:D} (h:Su d=true) (hj:vj j d ≤ n):V8 k n (Ws k j d)=true:=by
 cases d with
 | v x=>rfl
 | sl sz ds=>
  simp only [vj] at hj
  simp [Ws,V8]
  omega
 | _=>cases h
theorem L6 (j:Nat) (d:D):vj j d=j + ([d].filter xL).length:=by cases d <;> rfl
theorem Bo:∀ (l:List D) (j:Nat),yD j l=j + (l.filter xL).length
 | [],j=>rfl
 | d :: l,j=>by
  rw [yD,Bo l,L6,show d :: l=[d] ++ l from rfl,List.filter_append,List.length_append]
  omega
theorem Ip {k n:Nat}:∀ (l:List D) (j:Nat),l.all Su=true→yD j l ≤ n→(uD k j l).all (V8 k n)=true
 | [],j,_,_=>rfl
 | d :: l,j,h,hj=>by
  simp only [List.all_cons,Bool.and_eq_true] at h
  have h1:vj j d ≤ n:=by
   have:=Bo l (vj j d)
   simp only [yD] at hj
   omega
  simp only [uD,List.all_cons,L5 h.1 h1,Ip l _ h.2 hj,Bool.and_self]
theorem Bp {k n:Nat}:∀ (l:List RD) (j:Nat),(ez l).all Su=true→j + ((ez l).filter xL).length ≤ n→(rE k j l).all (Yf k n)=true
 | [],j,_,_=>rfl
 | .c d :: l,j,h,hj=>by
  simp only [ez,List.all_cons,Bool.and_eq_true] at h
  rw [ez,show d :: ez l=[d] ++ ez l from rfl,List.filter_append,List.length_append] at hj
  have h0:=L6 j d
  have g1:=L5 (k:=k) h.1 (show vj j d ≤ n by omega)
  have g2:=Bp (k:=k) (n:=n) l (vj j d) h.2 (by omega)
  simp only [rE,List.all_cons,Yf,g1,g2,Bool.and_self]
 | .a ds :: l,j,h,hj=>by
  simp only [ez,List.all_append,Bool.and_eq_true] at h
  rw [ez,List.filter_append,List.length_append] at hj
  have h0:=Bo ds j
  have g1:=Ip (k:=k) (n:=n) ds j h.1 (by omega)
  have g2:=Bp (k:=k) (n:=n) l (yD j ds) h.2 (by omega)
  simp only [rE,List.all_cons,Yf,g1,g2,Bool.and_self]
theorem sQ {k:Nat} {l:List RD} (h:(ez l).all Su=true):Wj k (cR l).row.length ((cR l).val k)=true:=by
 have h1:=Bp (k:=k) (n:=(cR l).row.length) l 0 h (by simp [cR])
 simp only [cR] at h1 ⊢
 unfold nx
 split
 rename_i heq
 rw [heq] at h1
 simpa [Wj] using h1
 exact h1
end
theorem gw.refl (w:World):gw w w:=⟨rfl,rfl,rfl,Nat.le_refl _,fun _ _=>rfl⟩
def Cn (P:Program) (o:Oper) (a:Act) (w:World) (next:Act→World→Prop):Result Next→Prop
 | .ok (.value v) w'=>gw w w'∧next (a.put o.dst v) w'
 | .ok .skip w'=>gw w w'∧next (a.put o.dst undef) w'
 | .ok (.enter f args) w'=>gw w w'∧Calls P f args w' fun e w''=>∃ v,e= .returned v∧gw w w''∧next (a.put o.dst v) w''
 | _=>False
def Ep (P:Program) (ops:Array Oper) (i:Nat) (K:Act→World→Prop) (a:Act) (w:World):Prop:=
 match ops[i]? with
 | none=>K a w
 | some o=>if Region.wanted o (yielded ops a.tmps) then Cn P o a w K ((execOp a.eval o).run P w) else K (a.put o.dst undef) w
section
variable {P:Program} {ops:Array Oper} {md:Region.Mode} {Q:Exit→Act→World→Prop}
theorem Od {o:Oper} {a:Act} {w:World} {K K':Act→World→Prop} (h:∀ a w,K a w→K' a w):∀ {r:Result Next},Cn P o a w K r→Cn P o a w K' r
 | .ok (.value v) w',hh=>⟨hh.1,h _ _ hh.2⟩
 | .ok .skip w',hh=>⟨hh.1,h _ _ hh.2⟩
 | .ok (.enter f args) w',hh=>⟨hh.1,hh.2.mono fun e w'' ⟨v,h1,h2,h3⟩=>⟨v,h1,h2,h _ _ h3⟩⟩
 | .ok (.defer d) w',hh=>hh.elim
 | .ok (.row r args) w',hh=>hh.elim
 | .halt x w',hh=>hh.elim
theorem Zc {i:Nat} {a:Act} {w:World} {K K':Act→World→Prop} (h:∀ a w,K a w→K' a w) (hh:Ep P ops i K a w):wpOp P ops Q i K' a w:=by
 unfold Ep at hh
 unfold wpOp
 split
 ·rename_i ho;simp only [ho] at hh;exact h _ _ hh
 ·rename_i o ho
  simp only [ho] at hh
  split
  ·rename_i hw
   simp only [hw,if_true] at hh
   refine .inl ?_
   unfold Oper.wp
   generalize (execOp a.eval o).run P w=r at *
   cases r with
   | ok n w'=>
    cases n <;> simp only [Cn] at hh <;> simp only [Oper.upon]
    case value v=>exact h _ _ hh.2
    case skip=>exact h _ _ hh.2
    case enter f args=>
     exact hh.2.mono fun e w'' ⟨v,h1,h2,h3⟩=>by subst h1;exact h _ _ h3
   | halt x w'=>exact hh.elim
  ·rename_i hw;simp only [hw] at hh;exact h _ _ hh
def YV (P:Program) (ops:Array Oper) (o:Oper) (v:Value) (a:Act) (w:World):Prop:=
 (Region.wanted o (yielded ops a.tmps)=true∧∀ w',gw w w'→(execOp a.eval o).run P w'= .ok (.value v) w') ∨ (Region.wanted o (yielded ops a.tmps)=false∧v=undef)
theorem YV.later {o:Oper} {v:Value} {a:Act} {w w':World} (h:YV P ops o v a w) (hw:gw w w'):YV P ops o v a w':=by
 rcases h with ⟨h1,h2⟩|h
 exact .inl ⟨h1,fun w'' h3=>h2 w'' (hw.trans h3)⟩
 exact .inr h
theorem YV.Ep {i:Nat} {o:Oper} {v:Value} {a:Act} {w:World} (hi:ops[i]? = some o) (hy:YV P ops o v a w) {K:Act→World→Prop} (h:K (a.put o.dst v) w):Ep P ops i K a w:=by
 unfold T.Ep
 simp only [hi]
 rcases hy with ⟨hw,hv⟩|⟨hw,rfl⟩
 simp only [hw,if_true,hv w (gw.refl w)]
 exact ⟨gw.refl w,h⟩
 simp only [hw,Bool.false_eq_true,if_false];exact h
theorem Wt {j:Nat} {oi oj:Oper} {v:Value} (hj:ops[j]? = some oj) (hap:oi.apart ops oj=true) (hsi:∀ cs b,oi.op ≠ .select cs b) (hsj:∀ cs b,oj.op ≠ .select cs b)
  {K:Act→World→Prop} {a:Act} {w:World} (hy:YV P ops oi v a w) (h:Ep P ops j K (a.put oi.dst v) w):Ep P ops j (fun a' w'=>YV P ops oi v a' w'∧K (a'.put oi.dst v) w') a w:=by
 obtain ⟨h1,h2,h3⟩:=Oper.apart_spec hap
 have keep:∀ u w',gw w w'→YV P ops oi v (a.put oj.dst u) w':=fun u w' CX=>by
  have:=hy.later CX
  unfold YV at *
  rw [execOp_put oi hsi a oj.dst u h3,wanted_put oi a oj.dst u h3]
  exact this
 unfold Ep at *
 simp only [hj] at *
 rw [wanted_put oj a oi.dst v h1] at h
 split
 ·rename_i hw
  simp only [hw,if_true] at h
  rw [execOp_put oj hsj a oi.dst v h1] at h
  generalize (execOp a.eval oj).run P w=r at *
  cases r with
  | ok n w'=>
   cases n <;> simp only [Cn] at h ⊢
   case value u=>exact ⟨h.1,keep u _ h.1,by rw [← Act.put_comm a v u h2];exact h.2⟩
   case skip=>exact ⟨h.1,keep _ _ h.1,by rw [← Act.put_comm a v undef h2];exact h.2⟩
   case enter f args=>exact ⟨h.1,h.2.mono fun e w'' ⟨u,e1,e2,e3⟩=>⟨u,e1,e2,keep u _ e2,by rw [← Act.put_comm a v u h2];exact e3⟩⟩
  | halt x w'=>exact h.elim
 ·rename_i hw
  simp only [hw] at h
  exact ⟨keep _ _ (gw.refl w),by rw [← Act.put_comm a v undef h2];exact h⟩
theorem L7 {i:Nat} {a:Act} {w:World} {K K':Act→World→Prop} (h:∀ a w,K a w→K' a w) (hh:Ep P ops i K a w):Ep P ops i K' a w:=by
 unfold Ep at *
 split
 exact h _ _ (by simpa [*] using hh)
 rename_i o ho
 simp only [ho] at hh
 split
 rename_i hw;simp only [hw,if_true] at hh;exact Od h hh
 rename_i hw;simp only [hw] at hh;exact h _ _ hh
end
section
variable {P:Program} {w0:World} {g0:Gh} {st:St}
theorem pJ {ops:Array Oper} {i:Nat} {o:Oper} {tl:List Oper} (h:ops.toList.drop i=o :: tl):ops[i]? = some o:=by
 have:=congrArg (·[0]?) h
 simpa using this
def rq (P:Program) (w0:World) (g0:Gh) (o:Oper) (st:St) (Q:St→Prop):Prop:=
 ∀ a w g,Rel w0 g0 st a w g→∀ K:Act→World→Prop,(∀ bD a' w' g',Q bD→Rel w0 g0 bD a' w' g'→K a' w')→Cn P o a w K ((execOp a.eval o).run P w)
theorem Ek.later {w w':World} {k:Nat} {r:mR} {v:Value} {g':Gh} (h:Ek w k r v w' g'):gw w w':=⟨h.os,h.tape,h.output,h.size,h.block⟩
theorem rq.call {o:Oper} {Q:St→Prop} {f:FuncId} {cx:Operand} {args:List Operand} {nL:Array TypeId} {fn:Func} (ho:o.op= .call { callee:= .value cx,args:=args.toArray,argTypes:=nL })
  (lA:T.cy 0 st cx=some (.fn f [])) (hf:P.funcs[f]? = some fn) (hb:fn.body.isNone=false)
  (hn : (fn.name == "runtime.NumGoroutine") = false) {k : Nat} (hd : o.dst = some k) {ts ts' : List TS} (hx : jI st args = some ts) (hs : rD st ts ts') {R : mR → Prop} (hc : xI P w0 g0 f ts' R)
  (hok:∀ r,R r→Wj k r.row.length (r.val k)=true) (hq:∀ r,R r→Q ((st.called k r).put (some k) (r.val k))) (hkp:k < 1000000:=by decide):rq P w0 g0 o st Q:=fun a w g hR K hK=>by
 have h1:=hR.jI hx
 have h2:=hs.get
 have jo:=hc w hR.ks.kept { g with o:=ij w } (args.map a.eval).toArray k rfl (by simp [h1.1,h2.1]) (fun i t' u hi hu=>by
  obtain ⟨t,h3,h4⟩:=h2.2 i t' hi
  exact hR.ru h4 (h1.2 i t u h3 (by simpa using hu)) _ rfl)
 rw [kk hR ho lA hf hb hn w]
 refine ⟨gw.refl w,jo.mono fun e w' ⟨v,r,g',he,hr,hG⟩=> ?_⟩
 obtain ⟨g2,Cj,hv2⟩:=hR.called hkp hG (hok r hr)
 refine ⟨v,he,hG.later,hK _ _ _ g2 (hq r hr) ?_⟩
 rw [hd]
 exact Cj.put hv2 (some k)
theorem rq.bk {o:Oper} {Q:St→Prop} {f:FuncId} {cx:Operand} {args:List Operand} {nL:Array TypeId} {fn:Func} (ho:o.op= .call { callee:= .value cx,args:=args.toArray,argTypes:=nL })
  (lA:T.cy 0 st cx=some (.fn f [])) (hf:P.funcs[f]? = some fn)
  (hb : fn.body.isNone = false) (hn : (fn.name == "runtime.NumGoroutine") = false) {k : Nat} (hd : o.dst = some k) {ts ts' : List TS} (hx : jI st args = some ts) {sz : Nat} {ds : List D} (hc : xI P w0 g0 f ts' (RL sz ds))
  (hs:rD st ts ts') (hq:Q ((st.fresh k ⟨false,[.own (.sl sz ds)]⟩).put (some k) (.one (.c (.ref ⟨k,[],0⟩))))) (hkp:k < 1000000:=by decide):rq P w0 g0 o st Q:=
 rq.call ho lA hf hb hn hd hx hs hc (fun r hr=>by subst hr;simp [Wj,Yf,V8]) (fun r hr=>by subst hr;exact hq) hkp
theorem rq.ak {o:Oper} {Q:St→Prop} {f:FuncId} {cx:Operand} {args:List Operand} {nL:Array TypeId} {fn:Func} (ho:o.op= .call { callee:= .value cx,args:=args.toArray,argTypes:=nL })
  (lA:T.cy 0 st cx=some (.fn f [])) (hf:P.funcs[f]? = some fn)
  (hb : fn.body.isNone = false) (hn : (fn.name == "runtime.NumGoroutine") = false) {k : Nat} (hd : o.dst = some k) {ts ts' : List TS} (hx : jI st args = some ts) {l : List RD} (hc : xI P w0 g0 f ts' (RG l))
  (hs:rD st ts ts') (hok:(ez l).all Su=true) (hq:Q ((st.fresh k ⟨false,((ez l).filter xL).map C.own⟩).put (some k) (nx (rE k 0 l)))) (hkp:k < 1000000:=by decide):rq P w0 g0 o st Q:=
 rq.call ho lA hf hb hn hd hx hs hc (fun r hr=>by subst hr;exact sQ hok) (fun r hr=>by subst hr;exact hq) hkp
end
abbrev U:TS:= .lp []
section
variable {P:Program} {w0:World} {g0:Gh} {st:St}
theorem Wu {w:World} {g:Gh}:dy w g U undef:= .lp [] #[] rfl (fun j t u h _=>by simp at h)
theorem U_inv {w:World} {g:Gh} {u:Value} (h:dy w g U u):u=undef:=by
 cases h with
 | lp _ us hs _=>
  have:us= #[]:=Array.eq_empty_of_size_eq_zero (by simpa using hs)
  rw [this]
  rfl
theorem JO {ops:Array Oper} {a:Act} {w:World} {g:Gh} (hR:Rel w0 g0 st a w g) {j:Nat} (h:guardOf ops st j=some U):yielded ops a.tmps j=none:=by
 unfold guardOf at h
 unfold yielded
 cases hd:(ops[j]?).bind (·.dst) with
 | none=>rw [hd] at h;cases h
 | some d=>
  rw [hd] at h
  simp only [Option.bind_some] at h ⊢
  have h1:=U_inv (hR.tm d _ h)
  rw [Array.getD_eq_getD_getElem?] at h1
  cases h2:a.tmps[d]? with
  | none=>rfl
  | some v=>
   rw [h2] at h1
   simp only [Option.getD_some] at h1
   subst h1
   rfl
def L8 (ops:Array Oper) (st:St) (o:Oper):Prop:=∃ j want,o.guard=some (j,want)∧(guardOf ops st j=some U ∨ ∃ b,guardOf ops st j=some (V (.bool b))∧b= !want)
theorem S9 {ops:Array Oper} {o:Oper} {j:Nat} {want b:Bool} (hg:o.guard=some (j,want)) (hb:guardOf ops st j=some (V (.bool b))) (he:b= !want):L8 ops st o:=⟨j,want,hg, .inr ⟨b,hb,he⟩⟩
theorem Zd {ops:Array Oper} {o:Oper} {j:Nat} {want:Bool} (hg:o.guard=some (j,want)) (hb:guardOf ops st j=some U):L8 ops st o:=⟨j,want,hg, .inl hb⟩
theorem DG {ops:Array Oper} {o:Oper} {a:Act} {w:World} {g:Gh} (h:L8 ops st o) (hR:Rel w0 g0 st a w g):Region.wanted o (yielded ops a.tmps)=false:=by
 obtain ⟨j,want,hg,h|⟨b,hb,he⟩⟩:=h
 simp [Region.wanted,hg,JO hR h]
 simp [Region.wanted,hg,yx hR hb,he]
theorem TL.skip {ops:Array Oper} {o:Oper} {rest:List Oper} {bD:St} {Q:St→Prop} (hn:L8 ops st o) (hp:st.put o.dst U=bD) (h:TL P w0 g0 ops rest bD Q):TL P w0 g0 ops (o :: rest) st Q:=
 fun a w g hR Q' hQ=>wpList_step fun K hK=>by
  rw [if_neg (by simp [DG hn hR])]
  exact hK _ _ (h _ _ _ (hp ▸ hR.put Wu o.dst) Q' hQ)
theorem TQ.skip {ops:Array Oper} {o:Oper} {rest:List Oper} {bD:St} {Q:St→Prop} (hn:L8 ops st o) (hp:st.put o.dst U=bD) (h:TQ P w0 g0 ops rest bD Q):TQ P w0 g0 ops (o :: rest) st Q:=
 fun a w g hR Q' hQ=>by
  refine wpQuiet_step fun K hK=> ?_
  rw [if_neg (by simp [DG hn hR])]
  exact hK _ (h _ _ _ (hp ▸ hR.put Wu o.dst) Q' hQ)
def RC (w:World) (g:Gh) (cs:List C) (us:List Value):Prop:=us.length=cs.length∧∀ (j:Nat) c u,cs[j]? = some c→us[j]? = some u→fO w g c u
theorem RC.append {w:World} {g:Gh} {a b:List C} {x y:List Value} (h:RC w g a x) (h':RC w g b y):RC w g (a ++ b) (x ++ y):=by
 refine ⟨by simp [h.1,h'.1],fun j c u hc hu=> ?_⟩
 rcases Nat.lt_or_ge j a.length with hj|hj
 rw [List.getElem?_append_left hj] at hc
 rw [List.getElem?_append_left (by rw [h.1];exact hj)] at hu
 exact h.2 j c u hc hu
 rw [List.getElem?_append_right hj] at hc
 rw [List.getElem?_append_right (by rw [h.1];exact hj),h.1] at hu
 exact h'.2 _ c u hc hu
theorem RC.take {w:World} {g:Gh} {a:List C} {x:List Value} (n:Nat) (h:RC w g a x):RC w g (a.take n) (x.take n):=by
 refine ⟨by simp [h.1],fun j c u hc hu=> ?_⟩
 rw [List.getElem?_take] at hc hu
 split at hc
 rename_i hj
 rw [if_pos hj] at hu
 exact h.2 j c u hc hu
 cases hc
theorem RC.drop {w:World} {g:Gh} {a:List C} {x:List Value} (n:Nat) (h:RC w g a x):RC w g (a.drop n) (x.drop n):=by
 refine ⟨by simp [h.1],fun j c u hc hu=> ?_⟩
 rw [List.getElem?_drop] at hc hu
 exact h.2 _ c u hc hu
theorem L9 (off:Nat):∀ (l:List Value) (k:Nat) (cs:Array Value),off + k + l.length ≤ cs.size→
  ((l.zipIdx k).foldl (fun cs (p:Value×Nat)=>cs.setIfInBounds (off + p.2) p.1) cs).toList=cs.toList.take (off + k) ++ l ++ cs.toList.drop (off + k + l.length)
 | [],k,cs,h=>by simp
 | v :: l,k,cs,h=>by
  simp only [List.length_cons] at h
  have ih:=L9 off l (k + 1) (cs.setIfInBounds (off + k) v) (by simp;omega)
  rw [List.zipIdx_cons,List.foldl_cons,ih]
  simp only [Array.toList_setIfInBounds,List.length_cons]
  have h1:off + (k + 1)=off + k + 1:=by omega
  rw [h1,List.take_add_one,List.take_set_of_le (by omega),List.getElem?_set_self (by simp;omega),List.drop_set_of_lt (by omega)]
  simp only [Option.toList_some,List.append_assoc,List.singleton_append,List.cons_append,List.nil_append]
  rw [show off + k + 1 + l.length=off + k + (l.length + 1) by omega]
def Iq (st:St) (x:Operand):Option (List C):=
 match T.cy 1 st x with
 | some (.one (.c .dead))=>none
 | some (.one (.c c))=>some [c]
 | some (.one (.agg cs))=>some cs
 | _=>none
def r_ (st:St):List (Nat×Operand)→Option (List (Nat×List C))
 | []=>some []
 | (i,x) :: l=>match Iq st x,r_ st l with|some c,some r=>some ((i,c) :: r)|_,_=>none
def Co (place:List (Nat×Nat)) (cs:List C):List (Nat×List C)→Option (List C)
 | []=>some cs
 | (i,l) :: rest=>
  match place[i]? with
  | none=>none
  | some (off,size)=>if Nat.beq l.length size && Nat.ble (off + l.length) cs.length then Co place (cs.take off ++ l ++ cs.drop (off + l.length)) rest else none
theorem Rq {a:Act} {w:World} {g:Gh} (hR:Rel w0 g0 st a w g) {x:Operand} {cs:List C} (h:Iq st x=some cs):RC w g cs (a.eval x).cells.toList:=by
 unfold Iq at h
 split at h
 cases h
 rename_i c hne hx
 simp only [Option.some.injEq] at h
 subst h
 have h1:=hR.cy hx
 cases h1 with
 | one _ _ h1=>
  cases h1 with
  | c _ _ h1=>
   rw [sM (h1.one (fun e=>by subst e;first|exact hne rfl|exact hne _ hx|exact hne))]
   refine ⟨rfl,fun j c u hc hu=> ?_⟩
   cases j with
   | zero=>simp only [List.getElem?_cons_zero,Option.some.injEq] at hc hu;subst hc;subst hu;exact h1
   | succ j=>simp at hc
 rename_i cs' hx
 simp only [Option.some.injEq] at h
 subst h
 have h1:=hR.cy hx
 generalize a.eval x=v at h1
 cases h1 with
 | one _ _ h1=>
  cases h1 with
  | agg _ us hs hv=>exact ⟨by simpa [Value.cells] using hs,fun j c u hc hu=>hv j c u hc (by simpa [Value.cells] using hu)⟩
 cases h
theorem Bq {a:Act} {w:World} {g:Gh} (hR:Rel w0 g0 st a w g) {place:List (Nat×Nat)}:∀ {l:List (Nat×Operand)} {pc:List (Nat×List C)} {cs cs':List C} {us:Array Value},r_ st l=some pc→
  Co place cs pc=some cs'→RC w g cs us.toList→∃ us':Array Value,Instr.fill (place.toArray[·]?) us (l.map fun p=>(p.1,a.eval p.2))=some us'∧RC w g cs' us'.toList
 | [],pc,cs,cs',us,h1,h2,h3=>by
  simp only [r_,Option.some.injEq] at h1
  subst h1
  simp only [Co,Option.some.injEq] at h2
  subst h2
  exact ⟨us,rfl,h3⟩
 | (i,x) :: l,pc,cs,cs',us,h1,h2,h3=>by
  simp only [r_] at h1
  split at h1
  rename_i c r hc hr
  simp only [Option.some.injEq] at h1
  subst h1
  simp only [Co] at h2
  split at h2
  cases h2
  rename_i off size hp
  split at h2
  rename_i hb
  simp only [Bool.and_eq_true] at hb
  have hb1:=Nat.eq_of_beq_eq_true hb.1
  have gY:=Nat.le_of_ble_eq_true hb.2
  have hx:=Rq hR hc
  have hxl:(a.eval x).cells.size=c.length:=by simpa using hx.1
  have PY:us.size=cs.length:=by simpa using h3.1
  have S_:=L9 off (a.eval x).cells.toList 0 us (by simp;omega)
  simp only [Nat.add_zero] at S_
  have hl:(a.eval x).cells.toList.length=c.length:=hx.1
  rw [hl] at S_
  obtain ⟨us',e1,e2⟩:=Bq hR hr h2 (us:=(((a.eval x).cells.toList.zipIdx).foldl (fun cs (p:Value×Nat)=>cs.setIfInBounds (off + p.2) p.1) us)) (by
   rw [S_]
   exact ((h3.take off).append hx).append (h3.drop _))
  refine ⟨us', ?_,e2⟩
  rw [← e1]
  have G7:place.toArray[i]? = some (off,size):=by simpa using hp
  simp only [List.map_cons,Instr.fill,G7]
  rw [if_neg (by simp;omega)]
  congr 1
  rw [← Array.foldl_toList,Array.toList_zipIdx]
  cases h2
  cases h1
theorem dQ.build {o:Oper} {t:TypeId} {parts:List (Nat×Operand)} (ho:o.op= .build t parts.toArray) {pc:List (Nat×List C)} (hp:r_ st parts=some pc) {fs:Array Field} (hu:P.underlying t=some (.struct fs))
  {it:TypeInfo} (hi:P.info? t=some it) {z:Value} (hz:it.zero=some z) {row:List D} (hrow:xR P 6 t=some row) (hv:z.cells.toList=row.map zeroV) (hok:row.all r9=true)
  {place:List (Nat×Nat)} (oF:fs.toList.mapM (fun f=>(P.info? f.type).map fun i=>(f.offset,i.size))=some place) {cs:List C} (hf:Co place (row.map C.ro) pc=some cs):dQ P w0 g0 o st (.one (.agg cs)):=
 fun a w g hR=>by
  have Y4:RC w g (row.map C.ro) z.cells.toList:=by
   refine ⟨by rw [hv];simp,fun j c u hc hu=> ?_⟩
   rw [hv] at hu
   rw [List.getElem?_map,Option.map_eq_some_iff] at hc hu
   obtain ⟨d,hd,rfl⟩:=hc
   obtain ⟨d',pH,rfl⟩:=hu
   rw [hd] at pH
   cases pH
   have hk:=List.all_eq_true.1 hok d (List.mem_of_getElem? hd)
   cases d with
   | v x=>exact Ro.v x hk
   | sl sz ds=>
    cases ds with
    | nil=>exact Ro.nil sz none 0
    | cons _ _=>cases hk
   | _=>cases hk
  obtain ⟨us,e1,e2⟩:=Bq hR hp hf Y4
  refine ⟨.agg us,fun w' _=> ?_, .one _ _ (.agg _ us (by simpa using e2.1) fun j c u hc hu=>e2.2 j c u hc (by simpa using hu))⟩
  have hb:P.built t (parts.map fun p=>(p.1,a.eval p.2))=some us:=by
   unfold Program.built
   simp only [hi,hu,hz,oF]
   exact e1
  have hrun:=run_build (P:=P) w' t (parts.toArray.map fun p=>(p.1,a.eval p.2)) us (by simpa using hb)
  simp only [List.map_toArray] at hrun
  simp [execOp,ho,hrun]
theorem dW {sz:Nat} {ds ds':List D} (h:ds=ds'):RL sz ds' ⟨[.sl sz ds],fun k=> .one (.c (.ref ⟨k,[],0⟩))⟩:=by subst h;rfl
end
structure Hand where
 mem:Bool
 row:List D
def Hand.k (h:Hand):Nat:=if h.mem then dN else cm
theorem Hand.big (h:Hand):1000000 ≤ h.k:=by unfold Hand.k;split <;> decide
structure Handed (w:World) (g:Gh) (h:Hand):Prop where
 out:∀ b,w.heap.size ≤ b→g.o b= .outer
 own:∀ b,b < w.heap.size→g.o b= .ro ∨ (g.o b).gu = some h.k
 ie:∀ b,g.o b ≠ .box cm
 row:∀ (q:Nat) d,h.row[q]? = some d→Ow w g h.k [] q d
 mem:h.mem=true→g.o (g.ad dN []).1= .box dN∧(∃ cs e,w.heap[(g.ad dN []).1]? = some (.cells cs e (0,0)))∧∀ q,q < h.row.length→w.cell? (bg (g.ad dN []) q)=some (g.cv dN [] q)
structure mV (w:World) (g:Gh) (h:Hand) (k:Nat) (row':List D) (r:mR) (v:Value) (w':World) (g':Gh):Prop where
 os:w'.os=w.os
 tape:w'.tape=w.tape
 output:w'.output=w.output
 size:w.heap.size ≤ w'.heap.size
 block:∀ b,b < w.heap.size→g.o b= .ro→w'.heap[b]? = w.heap[b]?
 own:∀ b,b < w'.heap.size→(w.heap.size ≤ b ∨ g.o b ≠ .ro)→g'.o b= .ro ∨ (g'.o b).gu = some k ∨ (g'.o b).gu = some h.k
 old:∀ b,((g'.o b).gu = some k ∨ (g'.o b).gu = some h.k)→b < w'.heap.size∧(w.heap.size ≤ b ∨ g.o b ≠ .ro)
 row:∀ (q:Nat) d,r.row[q]? = some d→Ow w' g' k [] q d
 hlen:row'.length=h.row.length
 hrow:∀ (q:Nat) d,row'[q]? = some d→Ow w' g' h.k [] q d
 Ze:h.mem=false→∀ q,q < h.row.length→g'.cv cm [] q=g.cv cm [] q
 pinb:h.mem=true→g'.ad dN []=g.ad dN []∧g'.o (g'.ad dN []).1= .box dN∧(∃ cs e,w'.heap[(g'.ad dN []).1]? = some (.cells cs e (0,0)))∧∀ q,q < row'.length→w'.cell? (bg (g'.ad dN []) q)=some (g'.cv dN [] q)
 val:dy w' g' (r.val k) v
def eA (P:Program) (f:FuncId) (h:Hand) (pts:List TS) (R:List D→mR→Prop):Prop:=
 ∀ (w:World) (g:Gh) (args:Array Value) (k:Nat),k < 1000000→Handed w g h→args.size=pts.length→(∀ (i:Nat) t u,pts[i]? = some t→args[i]? = some u→dy w g t u)→
  Calls P f args w fun e w'=>∃ v row' r g',e= .returned v∧R row' r∧mV w g h k row' r v w' g'
def L_ (P:Program) (fn:Func) (h:Hand) (R:List D→mR→Prop) (e:Exit) (st:St):Prop:=
 (e= .normal ∨ e= .ret)∧∃ (u_:List ResultVar) (cZ:List TV) (row row':List D),fn.results=u_.toArray∧u_.length ≤ 4∧u_.map (sN P st)=cZ.map some∧
  (cZ.flatMap fh).Nodup∧gV st (cZ.flatMap fh)=some row∧st.root h.k=some ⟨h.mem,row'.map C.own⟩∧row'.length=h.row.length∧((cZ.flatMap fh).all fun s=>s.1 != h.k)=true∧
  R row' ⟨row,fun k=>nx (cZ.map (iH (cZ.flatMap fh) k))⟩
def Gh.dX (g:Gh) (aK:List (Nat×Nat)) (k K:Nat):Gh where
 o b:=match g.o b with
  | .cQ k' p q=>if k'=K then .cQ K p q else match p with
   | []=>match idxOf (k',q) aK with|some j=> .cQ k [] j|none=> .ro
   | (q1,i) :: r=>match idxOf (k',q1) aK with|some j=> .cQ k ((j,i) :: r) q|none=> .ro
  | .box k'=>if k'=K then .box K else .ro
  | t=>t
 ad k' p:=if k'=K then g.ad K p else match p with| []=>(0,0)|(j,i) :: r=>match aK[j]? with|some s=>g.ad s.1 ((s.2,i) :: r)|none=>(0,0)
 cv k' p q:=if k'=K then g.cv K p q else match p with| []=>(match aK[q]? with|some s=>g.cv s.1 [] s.2|none=>undef)|(j,i) :: r=>match aK[j]? with|some s=>g.cv s.1 ((s.2,i) :: r) q|none=>undef
section
variable {P:Program} {w w':World} {g0 g:Gh} {st:St} {a:Act}
theorem Er {aK:List (Nat×Nat)} {k K:Nat} (Br:k ≠ K) {c:C} {u:Value} (h:fO w' g c u):fO w' (g.dX aK k K) (Ci aK k c) u:=by
 cases c with
 | ro d=>
  cases d with
  | v x=>
   have h3:Ro w' g.o (.v x) u:=h
   cases h3 with
   | v _ hp=>exact Ro.v _ hp
  | _=>trivial
 | own d=>trivial
 | ref pl=>
  obtain ⟨pk,pp,pq⟩:=pl
  simp only [Ci]
  split
  ·rename_i j h1 h2
   have:=ey h2
   refine ⟨?_,h.2⟩
   simp only [Gh.dX,this,if_neg Br]
   exact h.1
  ·trivial
 | dead=>trivial
theorem Oe {aK:List (Nat×Nat)} {k K:Nat} (Br:k ≠ K) {t:TV} {u:Value} (h:ef w' g t u):ef w' (g.dX aK k K) (iH aK k t) u:=by
 cases h with
 | c c u hv=>exact .c _ u (Er Br hv)
 | agg cs us hs hv=>
  refine .agg _ us (by simpa using hs) fun j c u h1 h2=> ?_
  rw [List.getElem?_map,Option.map_eq_some_iff] at h1
  obtain ⟨c',h1,rfl⟩:=h1
  exact Er Br (hv j c' u h1 h2)
 | _=>exact .dead _
theorem Rel.Zf {h:Hand} (hR:Rel w g0 st a w' g) (hH:Handed w g0 h) {aK:List (Nat×Nat)} (hn:aK.Nodup) {row row':List D} (hc:gV st aK=some row) (hr:st.root h.k=some ⟨h.mem,row'.map C.own⟩)
  (hl:row'.length=h.row.length) (hne:(aK.all fun s=>s.1 != h.k)=true) {k:Nat} (hk:k < 1000000) {T:Nat→TS} {v:Value} (hv:dy w' (g.dX aK k h.k) (T k) v):
  mV w g0 h k row' ⟨row,T⟩ v w' (g.dX aK k h.k):=by
 have Br:k ≠ h.k:=by have:=h.big;omega
 have Bl:∀ b,b < w.heap.size→g0.o b= .ro→w'.heap[b]? = w.heap[b]? ∧g.o b= .ro:=fun b hb h1=>by
  obtain ⟨h2,h3⟩:=hR.ks.block b hb (.inl h1)
  exact ⟨h2,h3.trans h1⟩
 have hout:∀ b,b < w'.heap.size→g.o b ≠ .outer:=fun b hb ht=>by
  obtain ⟨h1,h2⟩:=hR.ks.old b hb ht
  rcases hH.own b h1 with h3|h3
  rw [h3] at h2;cases h2
  rw [h2] at h3;cases h3
 refine ⟨hR.ks.os,hR.ks.tape,hR.ks.output,hR.ks.size,fun b hb h1=>(Bl b hb h1).1,fun b h2 _=> ?_,fun b hb=>⟨?_, ?_⟩,fun q d hq=> ?_,hl,fun q d hq=> ?_,fun hm q _=> ?_,fun hm=> ?_,hv⟩
 simp only [Gh.dX]
 cases ht:g.o b with
 | ro=>exact .inl rfl
 | outer=>exact absurd ht (hout b h2)
 | box k'=>
  simp only
  split
  exact .inr (.inr rfl)
  exact .inl rfl
 | cQ k' p q=>
  simp only
  split
  exact .inr (.inr rfl)
  cases p with
  | nil=>
   simp only
   split
   exact .inr (.inl rfl)
   exact .inl rfl
  | cons x r=>
   obtain ⟨q1,i⟩:=x
   simp only
   split
   exact .inr (.inl rfl)
   exact .inl rfl
 rcases Nat.lt_or_ge b w'.heap.size with h1|h1
 exact h1
 have:=hR.ks.fresh b h1
 simp only [Gh.dX,this] at hb
 rcases hb with hb|hb <;> cases hb
 rcases Nat.lt_or_ge b w.heap.size with h1|h1
 refine .inr fun h2=> ?_
 have:=(Bl b h1 h2).2
 simp only [Gh.dX,this] at hb
 rcases hb with hb|hb <;> cases hb
 exact .inl h1
 obtain ⟨s,h1,h2⟩:=(jM hc).2 q d hq
 have eT:s.1 ≠ h.k:=by simpa using List.all_eq_true.1 hne s (List.mem_of_getElem? h1)
 have hO:Ow w' g s.1 [] s.2 d:=(hR.cellAt h2).1 d rfl
 have hi:=p5 hn h1
 refine Ow.move hO ⟨?_,fun i r q'=> ?_,fun i r=> ?_,fun b hb=>⟨?_,rfl⟩,fun b i r q' hb=>⟨?_,rfl⟩⟩
 simp [Gh.dX,h1,Br]
 simp [Gh.dX,h1,Br]
 simp [Gh.dX,h1,Br]
 simp only [Gh.dX,hb,hi,if_neg eT]
 simp only [Gh.dX,hb,List.nil_append,hi,if_neg eT]
 have hO:Ow w' g h.k [] q d:=hR.rt.cell h.k _ hr q (.own d) (by simp [hq])
 refine Ow.move hO ⟨?_,fun i r q'=> ?_,fun i r=> ?_,fun b hb=>⟨?_,rfl⟩,fun b i r q' hb=>⟨?_,rfl⟩⟩
 simp [Gh.dX]
 simp [Gh.dX]
 simp [Gh.dX]
 simp [Gh.dX,hb]
 simp [Gh.dX,hb]
 have hK:h.k=cm:=by simp [Hand.k,hm]
 simp only [Gh.dX,hK,if_true]
 exact hR.ks.uB.1 q
 have hK:h.k=dN:=by simp [Hand.k,hm]
 obtain ⟨m1,m2,m3⟩:=hR.rt.mem h.k _ hr hm
 rw [hK] at m1 m2 m3
 have had:(g.dX aK k h.k).ad dN []=g.ad dN []:=by simp [Gh.dX,hK]
 rw [had]
 refine ⟨hR.ks.uB.2,by simp only [Gh.dX,m1,hK,if_true],m2,fun q hq=> ?_⟩
 have:=m3 q (by simpa using hq)
 rw [this]
 simp [Gh.dX,hK]
theorem Rel.Yi {fn:Func} {h:Hand} {R:List D→mR→Prop} {e:Exit} {k:Nat} {g':Gh} (hR:Rel w g st a w' g') (hH:Handed w g h) (hk:k < 1000000) (hE:L_ P fn h R e st):
  ∃ v,(results fn a.tmps).run P w'= .ok v w'∧∃ v_1 row' r g1,Ending.returned v=Ending.returned v_1∧R row' r∧(mV w g h k row' r v_1 w' g1∧∀ p q,g1.cv h.k p q=g'.cv h.k p q):=by
 obtain ⟨he,u_,cZ,row,row',h1,h2,h3,h4,h5,h6,h7,h8,h9⟩:=hE
 have Br:k ≠ h.k:=by have:=h.big;omega
 have hlen:u_.length=cZ.length:=by
  have:=congrArg List.length h3
  simpa using this
 obtain ⟨us,PY,PZ,sO⟩:=hR.resultList h3
 have hrun:=oE (P:=P) h1 h2 a.tmps w' PY PZ
 have xJ:∀ (i:Nat) t u,cZ[i]? = some t→us[i]? = some u→ef w' (g'.dX (cZ.flatMap fh) k h.k) (iH (cZ.flatMap fh) k t) u:=fun i t u hi hu=>Oe Br (sO i t u hi hu)
 have hval:dy w' (g'.dX (cZ.flatMap fh) k h.k) (nx (cZ.map (iH (cZ.flatMap fh) k))) (CW us):=by
  have JI:∀ l:List Value,l.length=cZ.length→(∀ (i:Nat) t u,cZ[i]? = some t→l[i]? = some u→ef w' (g'.dX (cZ.flatMap fh) k h.k) (iH (cZ.flatMap fh) k t) u)→
    dy w' (g'.dX (cZ.flatMap fh) k h.k) (.lp (cZ.map (iH (cZ.flatMap fh) k))) (.tuple l.toArray):=fun l hl hh=>
   .lp _ _ (by simp [hl]) fun j t u hj hu=>by
    rw [List.getElem?_map,Option.map_eq_some_iff] at hj
    obtain ⟨t',hj,rfl⟩:=hj
    exact hh j t' u hj (by simpa using hu)
  have hl:=JI us (by omega) xJ
  have Wk:us.length=cZ.length:=by omega
  clear hrun PZ sO h3 h5 h9 h8 h4
  match us,cZ,Wk with
  | [],[],_=>exact hl
  | [t],[tv],_=>exact .one _ _ (xJ 0 tv _ rfl rfl)
  | _ :: _ :: _,_ :: _ :: _,_=>exact hl
 have hG:=hR.Zf hH h4 h5 h6 h7 h8 hk (T:=fun k=>nx (cZ.map (iH (cZ.flatMap fh) k))) hval
 exact ⟨_,hrun,_,_,_,_,rfl,h9,hG,fun p q=>by simp [Gh.dX]⟩
theorem eA.of {f:FuncId} {fn:Func} {c:Code} {h:Hand} {pts:List TS} {R:List D→mR→Prop} (hf:P.funcs[f]? = some fn) (hb:fn.body=some c) (hn:pts.length ≤ fn.ntmps)
  (hw:∀ w g0,TC P w g0 c ⟨pts ++ List.replicate (fn.ntmps - pts.length) (.one .dead),[(h.k,⟨h.mem,h.row.map C.own⟩)]⟩ (L_ P fn h R)):eA P f h pts R:=by
 intro w g args k hk hH hsz hargs
 have gk:∀ k' r,(⟨pts ++ List.replicate (fn.ntmps - pts.length) (.one .dead),[(h.k,⟨h.mem,h.row.map C.own⟩)]⟩:St).root k'=some r→k'=h.k∧r=⟨h.mem,h.row.map C.own⟩:=fun k' r hr=>by
  simp only [St.root,List.find?_cons,List.find?_nil] at hr
  split at hr
  rename_i e
  simp only [Option.map_some,Option.some.injEq] at hr
  exact ⟨(by simpa using e:h.k=k').symm,hr.symm⟩
  cases hr
 refine calls_of_wp hf hb (wp_mono (hw w g _ w g ⟨fun i tv hi=> ?_, ?_,rfl,⟨fun k' r hk' q c hq=> ?_,fun k' r hk' hm=> ?_⟩,⟨rfl,rfl,rfl,Nat.le_refl _,fun b hb _=>⟨rfl,rfl⟩,fun b hb=>hH.out b hb,fun b hb ho=> ?_,⟨fun _=>rfl,rfl⟩,hH.ie⟩⟩) fun e a w' ⟨st,g',hE,hR⟩=> ?_)
 by_cases hlt:i < pts.length
 rw [List.getElem?_append_left hlt] at hi
 have hi':i < args.size:=by omega
 have h1:(args ++ Array.replicate (fn.ntmps - args.size) undef).getD i undef=args[i]:=by
  rw [Array.getD_eq_getD_getElem?,Array.getElem?_append_left hi',Array.getElem?_eq_getElem hi']
  rfl
 show dy w g tv ((args ++ Array.replicate (fn.ntmps - args.size) undef).getD i undef)
 rw [h1]
 exact hargs i tv _ hi (Array.getElem?_eq_getElem hi')
 rw [List.getElem?_append_right (by omega),List.getElem?_replicate] at hi
 split at hi
 simp only [Option.some.injEq] at hi
 subst hi
 exact .one _ _ (.dead _)
 cases hi
 show (args ++ Array.replicate (fn.ntmps - args.size) undef).size=_
 simp [hsz]
 obtain ⟨rfl,rfl⟩:=gk k' r hk'
 rw [List.getElem?_map,Option.map_eq_some_iff] at hq
 obtain ⟨d,hq,rfl⟩:=hq
 exact hH.row q d hq
 obtain ⟨rfl,rfl⟩:=gk k' r hk'
 have hm':h.mem=true:=hm
 have hK:h.k=dN:=by simp [Hand.k,hm']
 rw [hK]
 obtain ⟨m1,m2,m3⟩:=hH.mem hm'
 exact ⟨m1,m2,fun q hq=>m3 q (by simpa using hq)⟩
 rcases hH.own b hb with h1|h1
 rw [h1] at ho;cases ho
 rw [ho] at h1;cases h1
 obtain ⟨v,h1,v1,row',r,g1,h2,h3,h4,_⟩:=hR.Yi hH hk hE
 have vg:∃ v,(results fn a.tmps).run P w'= .ok v w'∧∃ v_1 row' r g1,Ending.returned v=Ending.returned v_1∧R row' r∧mV w g h k row' r v_1 w' g1:=⟨v,h1,v1,row',r,g1,h2,h3,h4⟩
 rcases hE.1 with rfl|rfl
 exact ⟨hR.df,vg⟩
 exact ⟨hR.df,vg⟩
def uE (P:Program) (f:FuncId) (row:List D) (q0:Nat) (pts:List TS) (R:List D→mR→Prop):Prop:=
 ∀ (w:World) (g:Gh) (args:Array Value) (k:Nat),k < 1000000→Handed w g ⟨true,row⟩→args.size=pts.length→(∀ (i:Nat) t u,pts[i]? = some t→args[i]? = some u→dy w g t u)→
  Calls P f args w fun e w'=>∃ v row' r g',e= .returned v∧R row' r∧mV w g ⟨true,row⟩ k row' r v w' g'∧g'.cv dN [] q0=g.cv dN [] q0
theorem uE.two {f:FuncId} {row:List D} {q0:Nat} {pts:List TS} {R:List D→mR→Prop} (h:uE P f row q0 pts R):eA P f ⟨true,row⟩ pts R:=fun w g args k hk hH hsz hargs=>
 (h w g args k hk hH hsz hargs).mono fun e w' ⟨v,row',r,g',h1,h2,h3,_⟩=>⟨v,row',r,g',h1,h2,h3⟩
theorem uE.of {f:FuncId} {fn:Func} {c:Code} {row:List D} {q0:Nat} {pts:List TS} {R:List D→mR→Prop} (hf:P.funcs[f]? = some fn) (hb:fn.body=some c) (hn:pts.length ≤ fn.ntmps)
  (hp:pts.map (TS.kill (fun pl=>Nat.beq pl.k cm) fun _=>false)=pts) {sz:Nat} {ds:List D} (hq:row[q0]? = some (.sl sz ds))
  (hw:∀ w g0,TC P w g0 c ⟨pts ++ List.replicate (fn.ntmps - pts.length) (.one .dead),[(dN,⟨true,row.map C.own⟩),(cm,⟨false,[.ref ⟨dN,[],q0⟩]⟩)]⟩
   fun e st=>L_ P fn ⟨true,row⟩ R e st∧∃ r,st.root cm=some r∧r.row[0]? = some (.ref ⟨dN,[],q0⟩)):uE P f row q0 pts R:=by
 intro w g args k hk hH hsz hargs
 generalize Bs:({ o:=g.o,ad:=g.ad,cv:=fun k p q=>if k=cm then (match p with| []=>if q=0 then g.cv dN [] q0 else g.cv k p q|_=>g.cv k p q) else g.cv k p q }:Gh)=gg
 have hA:oD w g w gg (fun pl=>Nat.beq pl.k cm) fun _=>false:=by
  subst Bs
  refine ⟨fun b hb=>⟨hb,rfl⟩,fun pl h=> ?_,fun _ _=>rfl⟩
  have:pl.k ≠ cm:=fun e=>by simp [e] at h
  simp only [if_neg this]
 have hKB:dN ≠ cm:=by decide
 have Sv:Handed w gg ⟨true,row⟩:=by
  have fL:∀ p q,gg.cv dN p q=g.cv dN p q:=fun p q=>by subst Bs;simp only [if_neg hKB]
  have ho:gg.o=g.o:=by subst Bs;rfl
  have had:gg.ad=g.ad:=by subst Bs;rfl
  refine ⟨fun b hb=> ?_,fun b hb=> ?_,fun b=> ?_,fun q d hq=> ?_,fun hm=> ?_⟩
  rw [ho];exact hH.out b hb
  rw [ho];exact hH.own b hb
  rw [ho];exact hH.ie b
  exact Ow.move (hH.row q d hq) ⟨fL _ _,fun i r q'=>fL _ _,fun i r=>by rw [had],fun b hb=>⟨by rw [ho];exact hb,rfl⟩,fun b i r q' hb=>⟨by rw [ho];exact hb,rfl⟩⟩
  have:=hH.mem hm
  rw [ho,had]
  simp only [fL]
  exact this
 have G_:gg.cv cm [] 0=g.cv dN [] q0:=by subst Bs;simp
 have hB:gg.cv dN [] q0=g.cv dN [] q0:=by subst Bs;simp only [if_neg hKB]
 have hone:(g.cv dN [] q0).oneCell'=true:=by
  cases hH.row q0 _ hq with
  | nil _ _ _ hc=>have hc:g.cv dN [] q0=_:=hc;rw [hc];rfl
  | sl _ _ _ _ b off n c cs e hc=>have hc:g.cv dN [] q0=_:=hc;rw [hc];rfl
 have gk:∀ k' r,(⟨pts ++ List.replicate (fn.ntmps - pts.length) (.one .dead),[(dN,⟨true,row.map C.own⟩),(cm,⟨false,[.ref ⟨dN,[],q0⟩]⟩)]⟩:St).root k'=some r→
   (k'=dN∧r=⟨true,row.map C.own⟩) ∨ (k'=cm∧r=⟨false,[.ref ⟨dN,[],q0⟩]⟩):=fun k' r hr=>by
  simp only [St.root,List.find?_cons,List.find?_nil] at hr
  split at hr
  rename_i e
  simp only [Option.map_some,Option.some.injEq] at hr
  exact .inl ⟨(by simpa using e:dN=k').symm,hr.symm⟩
  split at hr
  rename_i e
  simp only [Option.map_some,Option.some.injEq] at hr
  exact .inr ⟨(by simpa using e:cm=k').symm,hr.symm⟩
  cases hr
 have Of:∀ (i:Nat) t u,pts[i]? = some t→args[i]? = some u→dy w gg t u:=fun i t u hi hu=>by
  have h1:=(hargs i t u hi hu).kill hA
  have h2:=congrArg (fun l:List TS=>l[i]?) hp
  simp only [List.getElem?_map,hi,Option.map_some,Option.some.injEq] at h2
  rw [h2] at h1
  exact h1
 refine calls_of_wp hf hb (wp_mono (hw w gg _ w gg ⟨fun i tv hi=> ?_, ?_,rfl,⟨fun k' r hk' q c hq=> ?_,fun k' r hk' hm=> ?_⟩,⟨rfl,rfl,rfl,Nat.le_refl _,fun b hb _=>⟨rfl,rfl⟩,fun b hb=>Sv.out b hb,fun b hb ho=> ?_,⟨fun _=>rfl,rfl⟩,Sv.ie⟩⟩) fun e a w' ⟨st,g',⟨hE,r1,LI,Og⟩,hR⟩=> ?_)
 by_cases hlt:i < pts.length
 rw [List.getElem?_append_left hlt] at hi
 have hi':i < args.size:=by omega
 have h1:(args ++ Array.replicate (fn.ntmps - args.size) undef).getD i undef=args[i]:=by
  rw [Array.getD_eq_getD_getElem?,Array.getElem?_append_left hi',Array.getElem?_eq_getElem hi']
  rfl
 show dy w gg tv ((args ++ Array.replicate (fn.ntmps - args.size) undef).getD i undef)
 rw [h1]
 exact Of i tv _ hi (Array.getElem?_eq_getElem hi')
 rw [List.getElem?_append_right (by omega),List.getElem?_replicate] at hi
 split at hi
 simp only [Option.some.injEq] at hi
 subst hi
 exact .one _ _ (.dead _)
 cases hi
 show (args ++ Array.replicate (fn.ntmps - args.size) undef).size=_
 simp [hsz]
 rcases gk k' r hk' with ⟨rfl,rfl⟩|⟨rfl,rfl⟩
 rw [List.getElem?_map,Option.map_eq_some_iff] at hq
 obtain ⟨d,hq,rfl⟩:=hq
 exact Sv.row q d hq
 cases q with
 | zero=>
  simp only [List.getElem?_cons_zero,Option.some.injEq] at hq
  subst hq
  show gg.cv cm [] 0=gg.cv dN [] q0∧(gg.cv cm [] 0).oneCell'=true
  rw [G_,hB]
  exact ⟨rfl,hone⟩
 | succ q=>simp at hq
 rcases gk k' r hk' with ⟨rfl,rfl⟩|⟨rfl,rfl⟩
 obtain ⟨m1,m2,m3⟩:=Sv.mem rfl
 exact ⟨m1,m2,fun q hq=>m3 q (by simpa using hq)⟩
 cases hm
 rcases Sv.own b hb with h1|h1
 rw [h1] at ho;cases ho
 rw [ho] at h1;cases h1
 have xJ:g'.cv cm [] 0=g'.cv dN [] q0:=(hR.rt.cell cm r1 LI 0 _ Og).1
 have hkp:g'.cv cm [] 0=gg.cv cm [] 0:=hR.ks.uB.1 0
 obtain ⟨v,h1,v1,row',r,g1,h2,h3,h4,h5⟩:=hR.Yi Sv hk hE
 have h6:g1.cv dN [] q0=g.cv dN [] q0:=by rw [show g1.cv dN [] q0=g'.cv dN [] q0 from h5 [] q0, ← xJ,hkp,G_]
 have h7:mV w g ⟨true,row⟩ k row' r v1 w' g1:=by
  have ho:gg.o=g.o:=by subst Bs;rfl
  have had:gg.ad=g.ad:=by subst Bs;rfl
  refine ⟨h4.os,h4.tape,h4.output,h4.size,fun b hb hx=>h4.block b hb (by rw [ho];exact hx),fun b hb hx=>h4.own b hb (by rw [ho];exact hx),fun b hx=>by rw [← ho];exact h4.old b hx,h4.row,h4.hlen,h4.hrow,fun hm=>(by cases hm),fun hm=>by rw [← had];exact h4.pinb hm,h4.val⟩
 have vg:∃ v,(results fn a.tmps).run P w'= .ok v w'∧∃ v_1 row' r g1,Ending.returned v=Ending.returned v_1∧R row' r∧mV w g ⟨true,row⟩ k row' r v_1 w' g1∧g1.cv dN [] q0=g.cv dN [] q0:=⟨v,h1,v1,row',r,g1,h2,h3,h7,h6⟩
 rcases hE.1 with rfl|rfl
 exact ⟨hR.df,vg⟩
 exact ⟨hR.df,vg⟩
end
def Yj (pl:Pl):Nat:=match pl.p with| []=>pl.q|(q,_) :: _=>q
def Gh.hand (g:Gh) (n:Nat) (aK:List (Nat×Nat)) (bx:Option Nat) (K:Nat):Gh where
 o b:=if n ≤ b then .outer else match g.o b with
  | .cQ k' p q=>(match p with
   | []=>match idxOf (k',q) aK with|some j=> .cQ K [] j|none=> .ro
   | (q1,i) :: r=>match idxOf (k',q1) aK with|some j=> .cQ K ((j,i) :: r) q|none=> .ro)
  | .box k'=>if bx=some k' then .box K else .ro
  | _=> .ro
 ad k' p:=if k'=K then (match p with| []=>g.ad (bx.getD 0) []|(j,i) :: r=>match aK[j]? with|some s=>g.ad s.1 ((s.2,i) :: r)|none=>(0,0)) else g.ad k' p
 cv k' p q:=if k'=K then (match p with| []=>(match aK[q]? with|some s=>g.cv s.1 [] s.2|none=>undef)|(j,i) :: r=>match aK[j]? with|some s=>g.cv s.1 ((s.2,i) :: r) q|none=>undef) else g.cv k' p q
def sR (aK:List (Nat×Nat)) (bx:Option Nat) (K kd:Nat):Tag→Tag
 | .cQ k' p q=>if k'=K then (match p with
   | []=>match aK[q]? with|some s=> .cQ s.1 [] s.2|none=> .ro
   | (j,i) :: r=>match aK[j]? with|some s=> .cQ s.1 ((s.2,i) :: r) q|none=> .ro)
  else if k'=kd then .cQ kd p q else .ro
 | .box k'=>if k'=K then (match bx with|some kb=> .box kb|none=> .ro) else .ro
 | _=> .ro
def Tag.Wv:Tag→Bool
 | .ro=>true
 | _=>false
theorem Es {t:Tag}:t.Wv=true ↔ t= .ro:=by cases t <;> simp [Tag.Wv]
def Gh.back (g gc g':Gh) (n n':Nat) (aK:List (Nat×Nat)) (bx:Option Nat) (K kd:Nat):Gh where
 o b:=if b < n∧(gc.o b).Wv=true then g.o b else if b < n' then sR aK bx K kd (g'.o b) else .outer
 ad k' p:=if k'=kd then g'.ad kd p else match p with
  | []=>g.ad k' []
  | (q,i) :: r=>match idxOf (k',q) aK with|some j=>g'.ad K ((j,i) :: r)|none=>g.ad k' ((q,i) :: r)
 cv k' p q:=if k'=kd then g'.cv kd p q else match p with
  | []=>(match idxOf (k',q) aK with|some j=>g'.cv K [] j|none=>g.cv k' [] q)
  | (q1,i) :: r=>match idxOf (k',q1) aK with|some j=>g'.cv K ((j,i) :: r) q|none=>g.cv k' ((q1,i) :: r) q
def uF (aK:List (Nat×Nat)) (mem:Bool) (kd:Nat) (pl:Pl):Bool:=pl.k == kd || (aK.contains (pl.k,Yj pl) && (mem || !pl.p.isEmpty))
def zO (aK:List (Nat×Nat)) (kd:Nat) (pl:Pl):Bool:=pl.k == kd || (aK.contains (pl.k,Yj pl) && !pl.p.isEmpty)
def pK (aK:List (Nat×Nat)) (rows:List D) (pr:Pl→Bool) (k:Nat):Nat→List C→List C
 | _,[]=>[]
 | q,c :: l=>(match idxOf (k,q) aK with|some j=>(match rows[j]? with|some d=> .own d|none=> .dead)|none=>c.kill pr) :: pK aK rows pr k (q + 1) l
theorem Cp (aK:List (Nat×Nat)) (rows:List D) (pr:Pl→Bool) (k:Nat):∀ (l:List C) (q0 q:Nat) (c':C),(pK aK rows pr k q0 l)[q]? = some c'→
  ∃ c,l[q]? = some c∧c'=(match idxOf (k,q0 + q) aK with|some j=>(match rows[j]? with|some d=> .own d|none=> .dead)|none=>c.kill pr)
 | [],q0,q,c',h=>by simp [pK] at h
 | c :: l,q0,0,c',h=>by
  simp only [pK,List.getElem?_cons_zero,Option.some.injEq] at h
  exact ⟨c,rfl,h.symm⟩
 | c :: l,q0,q + 1,c',h=>by
  simp only [pK,List.getElem?_cons_succ] at h
  obtain ⟨c1,h1,h2⟩:=Cp aK rows pr k l (q0 + 1) q c' h
  exact ⟨c1,by simpa using h1,by rw [h2,show q0 + 1 + q=q0 + (q + 1) by omega]⟩
theorem vk (aK:List (Nat×Nat)) (rows:List D) (pr:Pl→Bool) (k:Nat):∀ (l:List C) (q0:Nat),(pK aK rows pr k q0 l).length=l.length
 | [],_=>rfl
 | c :: l,q0=>by simp [pK,vk aK rows pr k l]
def St.g_ (st:St) (aK:List (Nat×Nat)) (mem:Bool) (rows:List D) (kd:Nat):St:=
 ⟨st.tmps.map (TS.kill (uF aK mem kd) (zO aK kd)),(st.roots.filter fun x=>x.1 != kd).map fun x=>(x.1,⟨x.2.mem,pK aK rows (uF aK mem kd) x.1 0 x.2.row⟩)⟩
theorem oH (st:St) (aK:List (Nat×Nat)) (mem:Bool) (rows:List D) (kd k:Nat):(st.g_ aK mem rows kd).root k=
  if k=kd then none else (st.root k).map fun r=>⟨r.mem,pK aK rows (uF aK mem kd) k 0 r.row⟩:=by
 obtain ⟨tm,roots⟩:=st
 simp only [St.root,St.g_]
 induction roots with
 | nil=>simp
 | cons x l ih=>
  obtain ⟨i,r⟩:=x
  by_cases h1:i=kd
  subst h1
  simp only [List.filter_cons,bne_self_eq_false,Bool.false_eq_true,if_false,ih]
  by_cases h2:k=i
  simp [h2]
  have:(i == k)=false:=by simpa using fun e=>h2 e.symm
  simp [h2,List.find?_cons,this]
  have Ie:(i != kd)=true:=by simpa using h1
  simp only [List.filter_cons,Ie,if_true,List.map_cons,List.find?_cons]
  by_cases h2:i=k
  subst h2
  simp [h1]
  have:(i == k)=false:=by simpa using h2
  simp only [this,ih]
def fp (kb n:Nat):List (Nat×Nat):=(List.range n).map fun q=>(kb,q)
structure eZ (st:St) (h:Hand) (aK:List (Nat×Nat)) (bx:Option Nat) (kd:Nat):Prop where
 nodup:aK.Nodup
 cont:gV st aK=some h.row
 Ww:kd < 1000000
 nkd:∀ s ∈ aK,s.1 ≠ kd
 box:if h.mem then ∃ kb r,bx=some kb∧st.root kb=some r∧r.mem=true∧aK=fp kb h.row.length∧r.row.length=h.row.length∧kb ≠ kd else bx=none
inductive Cq (st:St) (aK:List (Nat×Nat)) (K:Nat):C→C→Prop
 | ro (d:D):Cq st aK K (.ro d) (.ro d)
 | hand {k q j:Nat} (h:idxOf (k,q) aK=some j):Cq st aK K (.ref ⟨k,[],q⟩) (.ref ⟨K,[],j⟩)
 | deep {k q1 i q j:Nat} {r:List (Nat×Nat)} (h:idxOf (k,q1) aK=some j):Cq st aK K (.ref ⟨k,(q1,i) :: r,q⟩) (.ref ⟨K,(j,i) :: r,q⟩)
 | ru {pl:Pl} {d:D} (h:st.cellAt pl=some (.own d)) (hw:Whole d) (hn:(aK.all fun s=>s.1 != pl.k)=true):Cq st aK K (.ref pl) (.ro d)
inductive gP (st:St) (aK:List (Nat×Nat)) (K:Nat):List C→List C→Prop
 | nil:gP st aK K [] []
 | cons {c c':C} {l l':List C} (h:Cq st aK K c c') (hl:gP st aK K l l'):gP st aK K (c :: l) (c' :: l')
inductive vl (st:St) (aK:List (Nat×Nat)) (bx:Option Nat) (K:Nat):TS→TS→Prop
 | c {c c':C} (h:Cq st aK K c c'):vl st aK bx K (.one (.c c)) (.one (.c c'))
 | agg {cs cs':List C} (h:gP st aK K cs cs'):vl st aK bx K (.one (.agg cs)) (.one (.agg cs'))
 | ptr {kb q:Nat} (h:bx=some kb):vl st aK bx K (.one (.ptr ⟨kb,[],q⟩)) (.one (.ptr ⟨K,[],q⟩))
 | Wx {kb q1 i q j:Nat} {r:List (Nat×Nat)} (hi:idxOf (kb,q1) aK=some j):vl st aK bx K (.one (.ptr ⟨kb,(q1,i) :: r,q⟩)) (.one (.ptr ⟨K,(j,i) :: r,q⟩))
 | bV (ds:List D):vl st aK bx K (.one (.bV ds)) (.one (.bV ds))
 | fn (f:FuncId):vl st aK bx K (.fn f []) (.fn f [])
 | Wh (f:FuncId) (fk:List TV) (h:fk.all SS=true):vl st aK bx K (.fn f fk) (.fn f fk)
 | fnX (f:FuncId) {kb q:Nat} (h:bx=some kb):vl st aK bx K (.fn f [.ptr ⟨kb,[],q⟩]) (.fn f [.ptr ⟨K,[],q⟩])
inductive aX (st:St) (aK:List (Nat×Nat)) (bx:Option Nat) (K:Nat):List TS→List TS→Prop
 | nil:aX st aK bx K [] []
 | cons {t t':TS} {ts ts':List TS} (h:vl st aK bx K t t') (hs:aX st aK bx K ts ts'):aX st aK bx K (t :: ts) (t' :: ts')
theorem gP.get {st:St} {aK:List (Nat×Nat)} {K:Nat} {cs cs':List C} (h:gP st aK K cs cs'):cs'.length=cs.length∧∀ (j:Nat) c',cs'[j]? = some c'→∃ c,cs[j]? = some c∧Cq st aK K c c':=by
 induction h with
 | nil=>exact ⟨rfl,fun j c h=>by simp at h⟩
 | cons h hl ih=>
  refine ⟨by simp [ih.1],fun j c' hj=> ?_⟩
  cases j with
  | zero=>
   simp only [List.getElem?_cons_zero,Option.some.injEq] at hj
   subst hj
   exact ⟨_,rfl,h⟩
  | succ j=>exact ih.2 j c' (by simpa using hj)
theorem aX.get {st:St} {aK:List (Nat×Nat)} {bx:Option Nat} {K:Nat} {ts ts':List TS} (h:aX st aK bx K ts ts'):ts'.length=ts.length∧∀ (i:Nat) t',ts'[i]? = some t'→∃ t,ts[i]? = some t∧vl st aK bx K t t':=by
 induction h with
 | nil=>exact ⟨rfl,fun i t' hi=>by simp at hi⟩
 | cons h hs ih=>
  refine ⟨by simp [ih.1],fun i t' hi=> ?_⟩
  cases i with
  | zero=>
   simp only [List.getElem?_cons_zero,Option.some.injEq] at hi
   subst hi
   exact ⟨_,rfl,h⟩
  | succ i=>exact ih.2 i t' (by simpa using hi)
section
variable {P:Program} {w0:World} {g0:Gh} {st:St} {a:Act} {w w':World} {g g':Gh} {h:Hand} {aK:List (Nat×Nat)} {bx:Option Nat} {kd:Nat}
theorem JP (g:Gh) (n:Nat) (aK:List (Nat×Nat)) (bx:Option Nat) (K:Nat) {b:Nat} (hb:b < n) (h:g.o b= .ro ∨ g.o b= .outer):(g.hand n aK bx K).o b= .ro:=by
 simp only [Gh.hand,if_neg (Nat.not_le.2 hb)]
 rcases h with h|h <;> rw [h]
theorem eZ.DH (hC:eZ st h aK bx kd) (hm:h.mem=false):bx=none:=by
 have:=hC.box
 rw [hm] at this
 simpa using this
theorem eZ.tG (hC:eZ st h aK bx kd) (hm:h.mem=true):∃ kb r,bx=some kb∧st.root kb=some r∧r.mem=true∧aK=fp kb h.row.length∧r.row.length=h.row.length∧kb ≠ kd:=by
 have:=hC.box
 rw [hm] at this
 simpa using this
theorem Rel.g_ (hR:Rel w0 g0 st a w g) (hC:eZ st h aK bx kd):Handed w (g.hand w.heap.size aK bx h.k) h:=by
 refine ⟨fun b hb=>by simp [Gh.hand,hb],fun b hb=> ?_,fun b=> ?_,fun q d hq=> ?_,fun hm=> ?_⟩
 simp only [Gh.hand,if_neg (Nat.not_le.2 hb)]
 split
 split
 split
 exact .inr rfl
 exact .inl rfl
 split
 exact .inr rfl
 exact .inl rfl
 split
 exact .inr rfl
 exact .inl rfl
 exact .inl rfl
 intro hb
 simp only [Gh.hand] at hb
 split at hb
 cases hb
 split at hb
 split at hb <;> split at hb <;> cases hb
 rename_i k' hk'
 split at hb
 rename_i e
 simp only [Tag.box.injEq] at hb
 cases hm:h.mem with
 | false=>rw [hC.DH hm] at e;cases e
 | true=>simp [Hand.k,hm] at hb
 cases hb
 cases hb
 obtain ⟨s,h1,h2⟩:=(jM hC.cont).2 q d hq
 have hO:Ow w g s.1 [] s.2 d:=(hR.cellAt h2).1 d rfl
 have hi:=p5 hC.nodup h1
 have hlt:∀ b,g.o b ≠ .outer→b < w.heap.size:=fun b hb=>by
  rcases Nat.lt_or_ge b w.heap.size with h|h
  exact h
  exact absurd (hR.ks.fresh b h) hb
 refine Ow.move hO ⟨?_,fun i r q'=> ?_,fun i r=> ?_,fun b hb=>⟨?_,rfl⟩,fun b i r q' hb=>⟨?_,rfl⟩⟩
 simp [Gh.hand,h1]
 simp [Gh.hand,h1]
 simp [Gh.hand,h1]
 have:=hlt b (by rw [hb];simp)
 simp only [Gh.hand,if_neg (Nat.not_le.2 this),hb,hi]
 have:=hlt b (by rw [hb];simp)
 simp only [Gh.hand,if_neg (Nat.not_le.2 this),hb,List.nil_append,hi]
 obtain ⟨kb,r,e1,e2,e3,e4,e5,e6⟩:=hC.tG hm
 have hK:h.k=dN:=by simp [Hand.k,hm]
 obtain ⟨m1,⟨cs,e,m2⟩,m3⟩:=hR.rt.mem kb r e2 e3
 have had:(g.hand w.heap.size aK bx h.k).ad dN []=g.ad kb []:=by simp [Gh.hand,hK,e1]
 have hlt:=jL m2
 rw [had]
 refine ⟨by simp only [Gh.hand,if_neg (Nat.not_le.2 hlt),m1,e1,if_true,hK],⟨cs,e,m2⟩,fun q hq=> ?_⟩
 rw [m3 q (by omega)]
 simp [Gh.hand,hK,e4,fp,hq]
theorem Rel.Yk (hR:Rel w0 g0 st a w g) (hC:eZ st h aK bx kd) {c c':C} {u:Value} (hg:Cq st aK h.k c c') (hu:fO w g c u):fO w (g.hand w.heap.size aK bx h.k) c' u:=by
 cases hg with
 | ro d=>exact Ro.mono (w:=w) (fun b hb=>⟨JP g _ _ _ _ (hR.SU b hb) (.inl hb),rfl⟩) hu
 | hand hi=>
  refine ⟨?_,hu.2⟩
  simp only [Gh.hand,if_true,ey hi]
  exact hu.1
 | deep hi=>
  refine ⟨?_,hu.2⟩
  simp only [Gh.hand,if_true,ey hi]
  exact hu.1
 | @ru pl d hc hw hn=>
  have h1:u=g.cv pl.k pl.p pl.q:=hu.1
  rw [h1]
  refine ((hR.cellAt hc).1 d rfl).Y7 hw fun b hb hlt=> ?_
  have hno:∀ q,idxOf (pl.k,q) aK=none:=fun q=>by
   cases hi:idxOf (pl.k,q) aK with
   | none=>rfl
   | some j=>
    have:=List.all_eq_true.1 hn _ (List.mem_of_getElem? (ey hi))
    simp at this
  simp only [Gh.hand,if_neg (Nat.not_le.2 hlt)]
  cases ht:g.o b with
  | cQ k' p q=>
   rw [ht] at hb
   have e:k'=pl.k:=by simpa [Tag.gu] using hb
   subst e
   cases p with
   | nil=>simp [hno]
   | cons x r=>simp [hno]
  | box k'=>
   rw [ht] at hb
   have e:k'=pl.k:=by simpa [Tag.gu] using hb
   subst e
   simp only
   split
   rename_i e
   exfalso
   cases hm:h.mem with
   | false=>rw [hC.DH hm] at e;cases e
   | true=>
    obtain ⟨kb,r,e1,e2,e3,e4,e5,e6⟩:=hC.tG hm
    rw [e1] at e
    simp only [Option.some.injEq] at e
    have gk:st.root pl.k=some r:=e ▸ e2
    have hrow:h.row ≠ []:=fun e0=>by
     rw [e0] at e5
     have:r.row=[]:=List.eq_nil_of_length_eq_zero (by simpa using e5)
     simp only [St.cellAt,gk,this] at hc
     split at hc
     simp at hc
     simp at hc
    have hl:0 < h.row.length:=List.length_pos_iff.2 hrow
    have:=List.all_eq_true.1 hn (kb,0) (by rw [e4,fp];exact List.mem_map.2 ⟨0,List.mem_range.2 hl,rfl⟩)
    simp [e] at this
   rfl
  | ro=>rfl
  | outer=>rfl
theorem Rel.Ma (hR:Rel w0 g0 st a w g) (hC:eZ st h aK bx kd) {t t':TS} {u:Value} (hg:vl st aK bx h.k t t') (hu:dy w g t u):dy w (g.hand w.heap.size aK bx h.k) t' u:=by
 cases hg with
 | c hc=>
  cases hu with
  | one _ _ hu=>cases hu with
   | c _ _ hu=>exact .one _ _ (.c _ _ (hR.Yk hC hc hu))
 | agg hcs=>
  cases hu with
  | one _ _ hu=>cases hu with
   | agg _ us hs hv=>
    refine .one _ _ (.agg _ us (by rw [hcs.get.1];exact hs) fun j c' u hj hu=> ?_)
    obtain ⟨c,h1,h2⟩:=hcs.get.2 j c' hj
    exact hR.Yk hC h2 (hv j c u h1 hu)
 | @ptr kb q hb=>
  cases hu with
  | one _ _ hu=>cases hu with
   | ptr _=>
    have:=ef.ptr (w:=w) (g:=g.hand w.heap.size aK bx h.k) ⟨h.k,[],q⟩
    have had:(g.hand w.heap.size aK bx h.k).ad h.k []=g.ad kb []:=by simp [Gh.hand,hb]
    simp only [had] at this
    exact .one _ _ this
 | @Wx kb q1 i q j r hi=>
  cases hu with
  | one _ _ hu=>cases hu with
   | ptr _=>
    have:=ef.ptr (w:=w) (g:=g.hand w.heap.size aK bx h.k) ⟨h.k,(j,i) :: r,q⟩
    have had:(g.hand w.heap.size aK bx h.k).ad h.k ((j,i) :: r)=g.ad kb ((q1,i) :: r):=by simp [Gh.hand,ey hi]
    simp only [had] at this
    exact .one _ _ this
 | bV ds=>
  cases hu with
  | one _ _ hu=>cases hu with
   | bV _ b off us ho hcell=>
    have hro:∀ b,g.o b= .ro→(g.hand w.heap.size aK bx h.k).o b= .ro∧w.heap[b]? = w.heap[b]? :=fun b hb=>⟨JP g _ _ _ _ (hR.SU b hb) (.inl hb),rfl⟩
    exact .one _ _ (.bV ds b off us (hro b ho).1 fun j d hj=>⟨(hcell j d hj).1,(hcell j d hj).2.mono hro⟩)
 | fn f=>
  cases hu with
  | fn _ _ us hs hh=>exact .fn f [] us hs fun j t u h1 _=>by simp at h1
 | Wh f fk hc=>
  cases hu with
  | fn _ _ us hs hh=>
   exact .fn f fk us hs fun j t u h1 h2=>JH (List.all_eq_true.1 hc t (List.mem_of_getElem? h1)) (fun d v hd=>Ro.mono (fun b hb=>⟨JP g _ _ _ _ (hR.SU b hb) (.inl hb),rfl⟩) hd) (hh j t u h1 h2)
 | @fnX f kb q hb=>
  cases hu with
  | fn _ _ us hs hh=>
   refine .fn f _ us (by simpa using hs) fun j t u h1 h2=> ?_
   cases j with
   | succ j=>simp at h1
   | zero=>
    simp only [List.getElem?_cons_zero,Option.some.injEq] at h1
    subst h1
    have h3:=hh 0 _ u rfl h2
    cases h3 with
    | ptr _=>
     have:=ef.ptr (w:=w) (g:=g.hand w.heap.size aK bx h.k) ⟨h.k,[],q⟩
     have had:(g.hand w.heap.size aK bx h.k).ad h.k []=g.ad kb []:=by simp [Gh.hand,hb]
     simp only [had] at this
     exact this
theorem Et {kb n q:Nat} (hq:q < n):idxOf (kb,q) (fp kb n)=some q:=by
 refine p5 ?_ (by simp [fp,hq])
 unfold fp List.Nodup
 rw [List.pairwise_map]
 exact List.nodup_range.imp fun hne e=>hne (by simpa using e)
theorem Rel.zP (hR:Rel w0 g0 st a w g) (hC:eZ st h aK bx kd) {rows:List D} {r:mR} {v:Value} (hG:mV w (g.hand w.heap.size aK bx h.k) h kd rows r v w' g'):
  ∃ g2,Rel w0 g0 (st.g_ aK h.mem rows kd) a w' g2∧(∀ (q:Nat) d,r.row[q]? = some d→Ow w' g2 kd [] q d)∧
   (∀ t u,Wj kd r.row.length t=true→dy w' g' t u→dy w' g2 t u)∧(∀ k' q j,k' ≠ kd→idxOf (k',q) aK=some j→g2.cv k' [] q=g'.cv h.k [] j∧∀ d,rows[j]? = some d→Ow w' g2 k' [] q d)∧
   (∀ p q,g2.cv kd p q=g'.cv kd p q)∧∀ k' q,k' ≠ kd→idxOf (k',q) aK=none→g2.cv k' [] q=g.cv k' [] q:=by
 generalize Oh:g.hand w.heap.size aK bx h.k=gc at hG
 have yy:cm ≠ kd:=by have:=hC.Ww;simp only [cm];omega
 have N6:dN ≠ kd:=by have:=hC.Ww;simp only [dN];omega
 have Br:kd ≠ h.k:=by have:=hC.Ww;have:=h.big;omega
 have hgro:∀ b,b < w.heap.size→(g.o b= .ro ∨ g.o b= .outer)→gc.o b= .ro:=fun b hb h1=>by subst Oh;exact JP g _ _ _ _ hb h1
 have hlt:∀ b,g.o b ≠ .outer→b < w.heap.size:=fun b hb=>by
  rcases Nat.lt_or_ge b w.heap.size with h|h
  exact h
  exact absurd (hR.ks.fresh b h) hb
 generalize mS:g.back gc g' w.heap.size w'.heap.size aK bx h.k kd=g2
 have hkeep:∀ b,b < w.heap.size→gc.o b= .ro→g2.o b=g.o b∧w'.heap[b]? = w.heap[b]? :=fun b hb h1=>by
  refine ⟨?_,hG.block b hb h1⟩
  subst mS
  simp only [Gh.back]
  exact if_pos ⟨hb,Es.2 h1⟩
 have hnew:∀ b,b < w'.heap.size→(w.heap.size ≤ b ∨ gc.o b ≠ .ro)→g2.o b=sR aK bx h.k kd (g'.o b):=fun b hb h1=>by
  subst mS
  simp only [Gh.back]
  rw [if_neg (fun ⟨h2,h3⟩=>by
   rcases h1 with h1|h1
   omega
   exact h1 (Es.1 h3)),if_pos hb]
 have hro:∀ b,g.o b= .ro→g2.o b= .ro∧w'.heap[b]? = w.heap[b]? :=fun b hb=>by
  have h1:=hlt b (by rw [hb];simp)
  obtain ⟨h2,h3⟩:=hkeep b h1 (hgro b h1 (.inl hb))
  exact ⟨h2.trans hb,h3⟩
 have Rr:∀ k' q,k' ≠ kd→idxOf (k',q) aK=none→g2.cv k' [] q=g.cv k' [] q:=fun k' q h1 h2=>by
  subst mS;simp only [Gh.back,if_neg h1,h2]
 have Ta:∀ k' q1 i r q,k' ≠ kd→idxOf (k',q1) aK=none→g2.cv k' ((q1,i) :: r) q=g.cv k' ((q1,i) :: r) q:=fun k' q1 i r q h1 h2=>by
  subst mS;simp only [Gh.back,if_neg h1,h2]
 have LM:∀ k',k' ≠ kd→g2.ad k' []=g.ad k' []:=fun k' h1=>by
  subst mS;simp only [Gh.back,if_neg h1]
 have Wy:∀ k' q1 i r,k' ≠ kd→idxOf (k',q1) aK=none→g2.ad k' ((q1,i) :: r)=g.ad k' ((q1,i) :: r):=fun k' q1 i r h1 h2=>by
  subst mS;simp only [Gh.back,if_neg h1,h2]
 have Wz:∀ k' q j,k' ≠ kd→idxOf (k',q) aK=some j→g2.cv k' [] q=g'.cv h.k [] j:=fun k' q j h1 h2=>by
  subst mS;simp only [Gh.back,if_neg h1,h2]
 have G_:h.mem=false→∀ k' q j,k' ≠ kd→idxOf (k',q) aK=some j→g2.cv k' [] q=g.cv k' [] q:=fun hm k' q j h1 h2=>by
  have hK:h.k=cm:=by simp [Hand.k,hm]
  have hj:j < h.row.length:=by
   have h3:=(List.getElem?_eq_some_iff.1 (ey h2)).1
   rw [(jM hC.cont).1]
   exact h3
  rw [Wz k' q j h1 h2,hK,hG.Ze hm j hj, ← Oh]
  simp [Gh.hand,hK,ey h2]
 have Ej:∀ k' q,aK.contains (k',q)=false→idxOf (k',q) aK=none:=fun k' q h1=>by
  cases hi:idxOf (k',q) aK with
  | none=>rfl
  | some j=>
   have:=List.mem_of_getElem? (ey hi)
   rw [List.contains_iff_mem.2 this] at h1
   cases h1
 have hA:oD w g w' g2 (uF aK h.mem kd) (zO aK kd):=by
  refine ⟨hro,fun pl hp=> ?_,fun pl hp=> ?_⟩
  obtain ⟨k',p,q⟩:=pl
  simp only [uF,Bool.or_eq_false_iff,Bool.and_eq_false_iff,beq_eq_false_iff_ne] at hp
  obtain ⟨h1,h2⟩:=hp
  cases p with
  | nil=>
   cases hi:idxOf (k',q) aK with
   | none=>exact Rr k' q h1 hi
   | some j=>
    rcases h2 with h2|h2
    rw [Ej k' q h2] at hi;cases hi
    exact G_ (by simpa using h2) k' q j h1 hi
  | cons x r=>
   obtain ⟨q1,i⟩:=x
   rcases h2 with h2|h2
   exact Ta k' q1 i r q h1 (Ej k' q1 h2)
   simp at h2
  obtain ⟨k',p,q⟩:=pl
  simp only [zO,Bool.or_eq_false_iff,Bool.and_eq_false_iff,beq_eq_false_iff_ne] at hp
  obtain ⟨h1,h2⟩:=hp
  cases p with
  | nil=>exact LM k' h1
  | cons x r=>
   obtain ⟨q1,i⟩:=x
   rcases h2 with h2|h2
   exact Wy k' q1 i r h1 (Ej k' q1 h2)
   simp at h2
 have hK:lF w0 g0 w' g2:=by
  have hk:=hR.ks
  refine ⟨hG.os.trans hk.os,hG.tape.trans hk.tape,hG.output.trans hk.output,Nat.le_trans hk.size hG.size,fun b hb hx=> ?_,fun b hb=> ?_,fun b hb hx=> ?_,⟨fun q=> ?_, ?_⟩,fun b hb=> ?_⟩
  obtain ⟨h1,h2⟩:=hk.block b hb hx
  have h3:b < w.heap.size:=by have:=hk.size;omega
  obtain ⟨h4,h5⟩:=hkeep b h3 (hgro b h3 (by rw [h2];exact hx))
  exact ⟨h5.trans h1,h4.trans h2⟩
  have h1:¬ b < w.heap.size:=by have:=hG.size;omega
  subst mS
  simp only [Gh.back,if_neg (fun hh:b < w.heap.size∧_=>h1 hh.1),if_neg (Nat.not_lt.2 hb)]
  by_cases h1:b < w.heap.size∧gc.o b= .ro
  rw [(hkeep b h1.1 h1.2).1] at hx
  exact hk.old b h1.1 hx
  rw [hnew b hb (by rcases Nat.lt_or_ge b w.heap.size with h2|h2;exact .inr (fun h3=>h1 ⟨h2,h3⟩);exact .inl h2)] at hx
  exfalso
  revert hx
  cases g'.o b with
  | cQ k' p q=>
   simp only [sR]
   split
   split <;> split <;> simp
   split <;> simp
  | box k'=>
   simp only [sR]
   split
   split <;> simp
   simp
  | _=>simp [sR]
  cases hi:idxOf (cm,q) aK with
  | none=>rw [Rr cm q yy hi];exact hk.uB.1 q
  | some j=>
   cases hm:h.mem with
   | false=>rw [G_ hm cm q j yy hi];exact hk.uB.1 q
   | true=>
    exfalso
    obtain ⟨kb,r,e1,e2,e3,e4,e5,e6⟩:=hC.tG hm
    have:=ey hi
    rw [e4,fp,List.getElem?_map,Option.map_eq_some_iff] at this
    obtain ⟨x,_,hx⟩:=this
    simp only [Prod.mk.injEq] at hx
    have Yd:=(hR.rt.mem kb r e2 e3).1
    rw [hx.1] at Yd
    exact hk.ie _ Yd
  rw [LM dN N6];exact hk.uB.2
  by_cases gY:b < w'.heap.size
  by_cases h1:b < w.heap.size∧gc.o b= .ro
  rw [(hkeep b h1.1 h1.2).1] at hb
  exact hk.ie b hb
  rw [hnew b gY (by rcases Nat.lt_or_ge b w.heap.size with h2|h2;exact .inr (fun h3=>h1 ⟨h2,h3⟩);exact .inl h2)] at hb
  revert hb
  cases g'.o b with
  | cQ k' p q=>
   simp only [sR]
   split
   split <;> split <;> simp
   split <;> simp
  | box k'=>
   simp only [sR]
   split
   cases He:bx with
   | none=>simp
   | some kb=>
    intro hb
    simp only [Tag.box.injEq] at hb
    cases hm:h.mem with
    | false=>rw [hC.DH hm] at He;cases He
    | true=>
     obtain ⟨kb2,r,e1,e2,e3,e4,e5,e6⟩:=hC.tG hm
     rw [e1] at He
     simp only [Option.some.injEq] at He
     have Yd:=(hR.rt.mem _ r e2 e3).1
     rw [He,hb] at Yd
     exact hk.ie _ Yd
   simp
  | _=>simp [sR]
  have h1:¬ b < w.heap.size:=by have:=hG.size;omega
  subst mS
  simp only [Gh.back,if_neg (fun hh:b < w.heap.size∧_=>h1 hh.1),if_neg gY] at hb
  cases hb
 have Mb:∀ k' q j d,k' ≠ kd→idxOf (k',q) aK=some j→rows[j]? = some d→Ow w' g2 k' [] q d:=fun k' q j d h1 h2 h3=>by
  have hs:=ey h2
  have hnd:=hC.nodup
  refine Ow.move (hG.hrow j d h3) ⟨Wz k' q j h1 h2,fun i r q'=> ?_,fun i r=> ?_,fun b hb=>⟨?_,rfl⟩,fun b i r q' hb=>⟨?_,rfl⟩⟩
  subst mS;simp only [Gh.back,if_neg h1,List.nil_append,h2]
  subst mS;simp only [Gh.back,if_neg h1,List.nil_append,h2]
  obtain ⟨o1,o2⟩:=hG.old b (.inr (by rw [hb];rfl))
  rw [hnew b o1 o2,hb]
  simp only [sR,if_true,hs]
  obtain ⟨o1,o2⟩:=hG.old b (.inr (by rw [hb];rfl))
  rw [hnew b o1 o2,hb]
  simp only [sR,List.nil_append,if_true,hs]
 have hsame:∀ k' q d,k' ≠ kd→idxOf (k',q) aK=none→Ow w g k' [] q d→Ow w' g2 k' [] q d:=fun k' q d h1 h2 h3=>by
  have hb0:∀ b p q',g.o b= .cQ k' p q'→(p=[]∧q'=q ∨ ∃ i r,p=(q,i) :: r)→g2.o b=g.o b∧w'.heap[b]? = w.heap[b]? :=fun b p q' hb hp=>by
   have hl:=hlt b (by rw [hb];simp)
   refine hkeep b hl ?_
   subst Oh
   simp only [Gh.hand,if_neg (Nat.not_le.2 hl),hb]
   rcases hp with ⟨rfl,rfl⟩|⟨i,r,rfl⟩
   simp only [h2]
   simp only [h2]
  refine Ow.move h3 ⟨Rr k' q h1 h2,fun i r q'=>Ta k' q i r q' h1 h2,fun i r=>Wy k' q i r h1 h2,fun b hb=> ?_,fun b i r q' hb=> ?_⟩
  have:=hb0 b [] q hb (.inl ⟨rfl,rfl⟩)
  exact ⟨this.1.trans hb,this.2⟩
  have:=hb0 b _ q' hb (.inr ⟨i,r,rfl⟩)
  exact ⟨this.1.trans hb,this.2⟩
 refine ⟨g2,hR.change hA rfl ⟨fun k' r' hk' q c hq=> ?_,fun k' r' hk' hm=> ?_⟩ hK,fun q d hq=> ?_,fun t u ht hu=> ?_,fun k' q j h1 h2=>⟨Wz k' q j h1 h2,fun d h3=>Mb k' q j d h1 h2 h3⟩,fun p q=>(by subst mS;simp only [Gh.back,if_true]),Rr⟩
 rw [oH] at hk'
 split at hk'
 cases hk'
 rename_i hne
 rw [Option.map_eq_some_iff] at hk'
 obtain ⟨r1,h1,rfl⟩:=hk'
 obtain ⟨c1,h2,rfl⟩:=Cp aK rows _ k' r1.row 0 q c hq
 rw [Nat.zero_add]
 cases hi:idxOf (k',q) aK with
 | some j=>
  simp only
  cases hd:rows[j]? with
  | none=>trivial
  | some d=>exact Mb k' q j d hne hi hd
 | none=>
  simp only
  have hc:=hR.rt.cell k' r1 h1 q c1 h2
  have fL:=Rr k' q hne hi
  cases c1 with
  | ro d=>show Ro w' g2.o d (g2.cv k' [] q);rw [fL];exact Ro.mono hro hc
  | own d=>exact hsame k' q d hne hi hc
  | ref pl=>
   have h3:g.cv k' [] q=g.cv pl.k pl.p pl.q∧(g.cv k' [] q).oneCell'=true:=hc
   simp only [C.kill]
   cases hp:uF aK h.mem kd pl with
   | true=>trivial
   | false=>
    show g2.cv k' [] q=g2.cv pl.k pl.p pl.q∧(g2.cv k' [] q).oneCell'=true
    rw [fL,hA.cv pl hp]
    exact h3
  | dead=>trivial
 rw [oH] at hk'
 split at hk'
 cases hk'
 rename_i hne
 rw [Option.map_eq_some_iff] at hk'
 obtain ⟨r1,h1,rfl⟩:=hk'
 obtain ⟨m1,⟨cs,e,m2⟩,m3⟩:=hR.rt.mem k' r1 h1 hm
 have hl:=jL m2
 rw [LM k' hne]
 by_cases He:bx=some k'
 have hm':h.mem=true:=by
  cases hmm:h.mem with
  | true=>rfl
  | false=>rw [hC.DH hmm] at He;cases He
 obtain ⟨kb,r2,e1,e2,e3,e4,e5,e6⟩:=hC.tG hm'
 rw [e1] at He
 simp only [Option.some.injEq] at He
 subst He
 obtain ⟨p1,p2,⟨cs2,ee2,p3⟩,p4⟩:=hG.pinb hm'
 have hKB:h.k=dN:=by simp [Hand.k,hm']
 have hcad:gc.ad dN []=g.ad kb []:=by subst Oh;simp [Gh.hand,hKB,e1]
 rw [p1,hcad] at p2 p3 p4
 have oX:gc.o (g.ad kb []).1 ≠ .ro:=by
  subst Oh
  simp only [Gh.hand,if_neg (Nat.not_le.2 hl),m1,e1,if_true]
  simp
 refine ⟨?_,⟨cs2,ee2,p3⟩,fun q hq=> ?_⟩
 rw [hnew _ (by have:=hG.size;omega) (.inr oX),p2]
 simp [sR,hKB,e1]
 rw [h1] at e2
 simp only [Option.some.injEq] at e2
 subst e2
 simp only [vk] at hq
 rw [p4 q (by rw [hG.hlen, ← e5];exact hq)]
 rw [Wz kb q q hne (by rw [e4];exact Et (by omega)),hKB]
 have oX:gc.o (g.ad k' []).1= .ro:=by
  subst Oh
  simp only [Gh.hand,if_neg (Nat.not_le.2 hl),m1,if_neg He]
 obtain ⟨k1,k2⟩:=hkeep _ hl oX
 refine ⟨k1.trans m1,⟨cs,e,k2.trans m2⟩,fun q hq=> ?_⟩
 simp only [vk] at hq
 rw [bg,iP k2]
 have h5:=m3 q hq
 rw [bg] at h5
 rw [h5]
 cases hi:idxOf (k',q) aK with
 | none=>rw [Rr k' q hne hi]
 | some j=>
  cases hmm:h.mem with
  | false=>rw [G_ hmm k' q j hne hi]
  | true=>
   exfalso
   obtain ⟨kb,r2,e1,e2,e3,e4,e5,e6⟩:=hC.tG hmm
   have:=ey hi
   rw [e4,fp,List.getElem?_map,Option.map_eq_some_iff] at this
   obtain ⟨x,_,hx⟩:=this
   simp only [Prod.mk.injEq] at hx
   exact He (by rw [e1,hx.1])
 refine Ow.move (hG.row q d hq) ⟨?_,fun i r q'=> ?_,fun i r=> ?_,fun b hb=>⟨?_,rfl⟩,fun b i r q' hb=>⟨?_,rfl⟩⟩
 subst mS;simp only [Gh.back,if_true]
 subst mS;simp only [Gh.back,if_true]
 subst mS;simp only [Gh.back,if_true]
 obtain ⟨o1,o2⟩:=hG.old b (.inl (by rw [hb];rfl))
 rw [hnew b o1 o2,hb]
 simp [sR,Br]
 obtain ⟨o1,o2⟩:=hG.old b (.inl (by rw [hb];rfl))
 rw [hnew b o1 o2,hb]
 simp [sR,Br]
 have LP:∀ p q,g2.cv kd p q=g'.cv kd p q:=fun p q=>by subst mS;simp only [Gh.back,if_true]
 have hCC:∀ c u,V8 kd r.row.length c=true→fO w' g' c u→fO w' g2 c u:=fun c u h1 h2=>by
  cases c with
  | ro d=>
   cases d with
   | v x=>
    have h3:Ro w' g'.o (.v x) u:=h2
    cases h3 with
    | v _ hp=>exact Ro.v _ hp
   | _=>cases h1
  | own d=>exact h2
  | ref pl=>
   simp only [V8,Bool.and_eq_true,beq_iff_eq] at h1
   obtain ⟨⟨h3,_⟩,_⟩:=h1
   show u=g2.cv pl.k pl.p pl.q∧u.oneCell'=true
   rw [h3,LP, ← h3]
   exact h2
  | dead=>trivial
 have hT:∀ t u,Yf kd r.row.length t=true→ef w' g' t u→ef w' g2 t u:=fun t u h1 h2=>by
  cases h2 with
  | c c u hv=>exact .c c u (hCC c u h1 hv)
  | agg cs us hs hv=>exact .agg cs us hs fun j c u h3 h4=>hCC c u (List.all_eq_true.1 h1 c (List.mem_of_getElem? h3)) (hv j c u h3 h4)
  | ptr pl=>cases h1
  | CV oC b off hro hcell=>cases h1
  | o3 oC b off hro hcell=>cases h1
  | cut pl sz lo hi b off n c hc Ie h2 h3=>cases h1
  | bV ds b off us ho hcell=>cases h1
  | dead u=>exact .dead u
 cases hu with
 | one t u hh=>exact .one t _ (hT t _ ht hh)
 | lp ts us hs hh=>exact .lp ts us hs fun j t u h3 h4=>hT t u (List.all_eq_true.1 ht t (List.mem_of_getElem? h3)) (hh j t u h3 h4)
 | fn f fk us hs hh=>cases ht
end
abbrev zF (rows:List D) (t:TS):List D→mR→Prop:=fun rs r=>rs=rows∧r=⟨[],fun _=>t⟩
section
variable {P:Program} {w0:World} {g0:Gh} {st:St}
theorem eZ.list {aK:List (Nat×Nat)} {row:List D} {kd:Nat} (hc:gV st aK=some row) (hn:aK.Nodup:=by decide) (hk:(aK.all fun s=>s.1 != kd)=true:=by decide) (hkd:kd < 1000000:=by decide):
  eZ st ⟨false,row⟩ aK none kd:=⟨hn,hc,hkd,fun s hs=>by simpa using List.all_eq_true.1 hk s hs,by simp⟩
theorem zQ {kb:Nat} {m:Bool}:∀ {sK:List D} (row:List D) (q0:Nat),st.root kb=some ⟨m,sK.map C.own⟩→(∀ (q:Nat) d,row[q]? = some d→sK[q0 + q]? = some d)→gV st ((List.range' q0 row.length).map fun q=>(kb,q))=some row
 | sK,[],q0,h,hh=>rfl
 | sK,d :: row,q0,h,hh=>by
  have h1:st.cellAt ⟨kb,[],q0⟩=some (.own d):=by
   have:=hh 0 d rfl
   simp only [St.cellAt,h,List.getElem?_map]
   rw [show q0 + 0=q0 from rfl] at this
   rw [this]
   rfl
  have h2:=zQ (sK:=sK) row (q0 + 1) h fun q d' hq=>by
   have:=hh (q + 1) d' (by simpa using hq)
   rw [show q0 + 1 + q=q0 + (q + 1) by omega]
   exact this
  simp only [List.length_cons,List.range'_succ,List.map_cons,gV,h1,h2]
theorem eZ.bx {kb:Nat} {row:List D} {kd:Nat} (hr:st.root kb=some ⟨true,row.map C.own⟩) (hk:kb ≠ kd:=by decide) (hkd:kd < 1000000:=by decide):
  eZ st ⟨true,row⟩ (fp kb row.length) (some kb) kd:=by
 refine ⟨?_, ?_,hkd,fun s hs=> ?_, ?_⟩
 unfold fp List.Nodup
 rw [List.pairwise_map]
 exact List.nodup_range.imp fun hne e=>hne (by simpa using e)
 have:=zQ (sK:=row) row 0 hr (fun q d hq=>by simpa using hq)
 rw [← List.range_eq_range'] at this
 exact this
 unfold fp at hs
 obtain ⟨q,_,rfl⟩:=List.mem_map.1 hs
 exact hk
 exact ⟨kb,_,rfl,hr,rfl,rfl,by simp,hk⟩
end
def kD {α:Type} (a b:List α) (k:Nat):List α:=a.take k ++ b.drop k
section
variable {α:Type} {a b:List α} {k:Nat}
theorem lK:kD a b 0=b:=by simp [kD]
theorem dM (h:a.length=b.length):(kD a b k).length=b.length:=by simp [kD];omega
theorem n_ (h:a.length=b.length):(kD a b k)[k]? = b[k]? :=by
 unfold kD
 rcases Nat.lt_or_ge k b.length with hk|hk
 rw [List.getElem?_append_right (by simp;omega),List.getElem?_drop]
 congr 1
 simp
 omega
 rw [List.getElem?_append_right (by simp;omega),List.getElem?_drop,List.getElem?_eq_none (by simp;omega),List.getElem?_eq_none hk]
theorem oa {x: α} (h:a.length=b.length) (hx:a[k]? = some x):(kD a b k).set k x=kD a b (k + 1):=by
 have hk:=(List.getElem?_eq_some_iff.1 hx).1
 unfold kD
 rw [List.set_append_right _ _ (by simp;omega)]
 have h1:k - (a.take k).length=0:=by simp;omega
 rw [h1,List.drop_eq_getElem_cons (by omega),List.set_cons_zero,List.take_add_one,hx]
 simp
theorem oc (h:a.length=b.length) (hk:b.length ≤ k):kD a b k=a:=by
 unfold kD
 rw [List.take_of_length_le (by omega),List.drop_eq_nil_of_le hk,List.append_nil]
end
def Gh.take (g:Gh) (k1 q1 L:Nat):Gh where
 o b:=match g.o b with
  | .cQ k' p q=>if k'=k1 then (match p with
    | []=>if q=q1 then .cQ L [] 0 else .cQ k' [] q
    | (x,i) :: r=>if x=q1 then .cQ L ((0,i) :: r) q else .cQ k' ((x,i) :: r) q)
   else if k'=L then .ro else .cQ k' p q
  | .box k'=>if k'=L then .ro else .box k'
  | t=>t
 ad k' p:=if k'=L then (match p with| []=>(0,0)|(_,i) :: r=>g.ad k1 ((q1,i) :: r)) else g.ad k' p
 cv k' p q:=if k'=L then (match p with| []=>g.cv k1 [] q1|(_,i) :: r=>g.cv k1 ((q1,i) :: r) q) else g.cv k' p q
def St.take (st:St) (k1 q1 L:Nat):Option St:=
 match st.root k1 with
 | some r=>match r.row[q1]? with
  | some (.own (.sl sz ds))=>some ((st.fresh L ⟨false,[.own (.sl sz ds)]⟩).cq k1 ⟨r.mem,(r.row.map (C.kill fun pl=>pl.k == L)).set q1 (.ref ⟨L,[],0⟩)⟩)
  | _=>none
 | none=>none
section
variable {P:Program} {w0:World} {g0:Gh} {st:St} {a:Act} {w:World} {g:Gh}
theorem Rel.take (hR:Rel w0 g0 st a w g) {k1 q1 L:Nat} {bD:St} (ht:st.take k1 q1 L=some bD) (hne:k1 ≠ L) (hL:L < 1000000):∃ g1,Rel w0 g0 bD a w g1:=by
 unfold St.take at ht
 split at ht
 rename_i r hk
 split at ht
 rename_i sz ds hq
 simp only [Option.some.injEq] at ht
 subst ht
 have yy:cm ≠ L:=by simp only [cm];omega
 have N6:dN ≠ L:=by simp only [dN];omega
 refine ⟨g.take k1 q1 L, ?_⟩
 have hro:∀ b,g.o b= .ro→(g.take k1 q1 L).o b= .ro∧w.heap[b]? = w.heap[b]? :=fun b hb=>⟨by simp [Gh.take,hb],rfl⟩
 have fL:∀ k' p q,k' ≠ L→(g.take k1 q1 L).cv k' p q=g.cv k' p q:=fun k' p q h=>by simp only [Gh.take,if_neg h]
 have had:∀ k' p,k' ≠ L→(g.take k1 q1 L).ad k' p=g.ad k' p:=fun k' p h=>by simp only [Gh.take,if_neg h]
 have hA:oD w g w (g.take k1 q1 L) (fun pl=>pl.k == L) (fun pl=>pl.k == L):=⟨hro,fun pl hp=>fL _ _ _ (by simpa using hp),fun pl hp=>had _ _ (by simpa using hp)⟩
 have V9:∀ k' q d,k' ≠ L→(k'=k1→q ≠ q1)→Ow w g k' [] q d→Ow w (g.take k1 q1 L) k' [] q d:=fun k' q d h1 h2 h3=>by
  refine Ow.move h3 ⟨fL _ _ _ h1,fun i r q'=>fL _ _ _ h1,fun i r=>had _ _ h1,fun b hb=>⟨?_,rfl⟩,fun b i r q' hb=>⟨?_,rfl⟩⟩
  simp only [Gh.take,hb]
  by_cases e:k'=k1
  rw [if_pos e,if_neg (h2 e)]
  rw [if_neg e,if_neg h1]
  simp only [Gh.take,hb,List.nil_append]
  by_cases e:k'=k1
  rw [if_pos e,if_neg (h2 e)]
  rw [if_neg e,if_neg h1]
 have hcell:∀ k' q c,k' ≠ L→(k'=k1→q ≠ q1)→lE w g k' q c→lE w (g.take k1 q1 L) k' q (c.kill fun pl=>pl.k == L):=fun k' q c h1 h2 h3=>by
  cases c with
  | ro d=>show Ro w _ d _;rw [fL _ _ _ h1];exact Ro.mono hro h3
  | own d=>exact V9 k' q d h1 h2 h3
  | ref pl=>
   have h4:g.cv k' [] q=g.cv pl.k pl.p pl.q∧(g.cv k' [] q).oneCell'=true:=h3
   simp only [C.kill]
   by_cases e:pl.k=L
   rw [if_pos (by simpa using e)];trivial
   rw [if_neg (by simpa using e)]
   show (g.take k1 q1 L).cv k' [] q=(g.take k1 q1 L).cv pl.k pl.p pl.q∧((g.take k1 q1 L).cv k' [] q).oneCell'=true
   rw [fL _ _ _ h1,fL _ _ _ e]
   exact h4
  | dead=>trivial
 have hO:Ow w g k1 [] q1 (.sl sz ds):=hR.rt.cell k1 r hk q1 _ hq
 have hone:(g.cv k1 [] q1).oneCell'=true:=by
  cases hO with
  | nil _ _ _ he=>rw [he];rfl
  | sl _ _ _ _ _ _ _ _ _ _ he=>rw [he];rfl
 have gk:∀ k' r',((st.fresh L ⟨false,[.own (.sl sz ds)]⟩).cq k1 ⟨r.mem,(r.row.map (C.kill fun pl=>pl.k == L)).set q1 (.ref ⟨L,[],0⟩)⟩).root k'=some r'→
   (k'=k1∧r'=⟨r.mem,(r.row.map (C.kill fun pl=>pl.k == L)).set q1 (.ref ⟨L,[],0⟩)⟩) ∨ (k'=L∧r'=⟨false,[.own (.sl sz ds)]⟩) ∨ (k' ≠ k1∧k' ≠ L∧∃ r1,st.root k'=some r1∧r'=r1.kill fun pl=>pl.k == L):=fun k' r' h=>by
  rw [St.c7] at h
  split at h
  rename_i e
  simp only [Option.some.injEq] at h
  exact .inl ⟨e,h.symm⟩
  rename_i e
  rw [St.fresh,St.c7] at h
  split at h
  rename_i e2
  simp only [Option.some.injEq] at h
  exact .inr (.inl ⟨e2,h.symm⟩)
  rename_i e2
  rw [St.jl,Option.map_eq_some_iff] at h
  obtain ⟨r1,h1,h2⟩:=h
  exact .inr (.inr ⟨e,e2,r1,h1,h2.symm⟩)
 refine hR.change hA rfl ⟨fun k' r' hk' q c hc=> ?_,fun k' r' hk' hm=> ?_⟩ ?_
 rcases gk k' r' hk' with ⟨rfl,rfl⟩|⟨rfl,rfl⟩|⟨h1,h2,r1,h3,rfl⟩
 rw [List.getElem?_set] at hc
 by_cases e:q1=q
 subst e
 rw [if_pos rfl] at hc
 split at hc
 simp only [Option.some.injEq] at hc
 subst hc
 show (g.take k' q1 L).cv k' [] q1=(g.take k' q1 L).cv L [] 0∧((g.take k' q1 L).cv k' [] q1).oneCell'=true
 rw [fL _ _ _ hne]
 exact ⟨by simp [Gh.take],hone⟩
 cases hc
 rw [if_neg e,List.getElem?_map,Option.map_eq_some_iff] at hc
 obtain ⟨c1,h4,rfl⟩:=hc
 exact hcell k' q c1 hne (fun _=>fun h=>e h.symm) (hR.rt.cell k' r hk q c1 h4)
 cases q with
 | succ q=>simp at hc
 | zero=>
  simp only [List.getElem?_cons_zero,Option.some.injEq] at hc
  subst hc
  refine Ow.move hO ⟨by simp [Gh.take],fun i r q'=>by simp [Gh.take],fun i r=>by simp [Gh.take],fun b hb=>⟨by simp [Gh.take,hb],rfl⟩,fun b i r q' hb=>⟨by simp [Gh.take,hb],rfl⟩⟩
 simp only [Rt.kill,List.getElem?_map,Option.map_eq_some_iff] at hc
 obtain ⟨c1,h4,rfl⟩:=hc
 exact hcell k' q c1 h2 (fun e=>absurd e h1) (hR.rt.cell k' r1 h3 q c1 h4)
 have hmem:∀ k' r1,k' ≠ L→st.root k'=some r1→r1.mem=true→(g.take k1 q1 L).o ((g.take k1 q1 L).ad k' []).1= .box k'∧(∃ cs e,w.heap[((g.take k1 q1 L).ad k' []).1]? = some (.cells cs e (0,0)))∧
   ∀ q,q < r1.row.length→w.cell? (bg ((g.take k1 q1 L).ad k' []) q)=some ((g.take k1 q1 L).cv k' [] q):=fun k' r1 h1 h2 h3=>by
  obtain ⟨m1,m2,m3⟩:=hR.rt.mem k' r1 h2 h3
  rw [had _ _ h1]
  refine ⟨by simp only [Gh.take,m1,if_neg h1],m2,fun q hq=> ?_⟩
  rw [fL _ _ _ h1]
  exact m3 q hq
 rcases gk k' r' hk' with ⟨rfl,rfl⟩|⟨rfl,rfl⟩|⟨h1,h2,r1,h3,rfl⟩
 obtain ⟨m1,m2,m3⟩:=hmem k' r hne hk hm
 exact ⟨m1,m2,fun q hq=>m3 q (by simpa using hq)⟩
 cases hm
 obtain ⟨m1,m2,m3⟩:=hmem k' r1 h2 h3 hm
 exact ⟨m1,m2,fun q hq=>m3 q (by simpa [Rt.kill] using hq)⟩
 have wG:=hR.ks
 refine ⟨wG.os,wG.tape,wG.output,wG.size,fun b hb hx=> ?_,fun b hb=> ?_,fun b hb hx=> ?_,⟨fun q=> ?_, ?_⟩,fun b hb=> ?_⟩
 obtain ⟨h1,h2⟩:=wG.block b hb hx
 refine ⟨h1, ?_⟩
 rcases hx with hx|hx <;> simp [Gh.take,h2,hx]
 simp [Gh.take,wG.fresh b hb]
 refine wG.old b hb ?_
 revert hx
 simp only [Gh.take]
 split
 split
 split <;> split <;> simp
 split <;> simp
 split <;> simp
 exact fun h=>h
 rw [fL _ _ _ yy];exact wG.uB.1 q
 rw [had _ _ N6];exact wG.uB.2
 revert hb
 simp only [Gh.take]
 split
 split
 split <;> split <;> simp
 split <;> simp
 rename_i k' hb0
 split
 simp
 intro hb
 simp only [Tag.box.injEq] at hb
 subst hb
 exact wG.ie b hb0
 rename_i h1 h2
 intro hb
 exact wG.ie b hb
 cases ht
 cases ht
end
section
variable {P:Program} {w0:World} {g0:Gh} {st:St}
theorem Ir {w:World} {g:Gh} {k:Nat} (fL:∀ q,g.cv k [] q= .slice none 0 0):∀ (row:List D) (j:Nat),row.all r9=true→RC w g (uD k j row) (row.map zeroV)
 | [],j,_=>⟨rfl,fun i c u hc=>by simp [uD] at hc⟩
 | d :: row,j,h=>by
  simp only [List.all_cons,Bool.and_eq_true] at h
  have ih:=Ir (w:=w) fL row (vj j d) h.2
  refine ⟨by simp [uD,ih.1],fun i c u hc hu=> ?_⟩
  cases i with
  | succ i=>exact ih.2 i c u (by simpa [uD] using hc) (by simpa using hu)
  | zero=>
   simp only [uD,List.getElem?_cons_zero,List.map_cons,Option.some.injEq] at hc hu
   subst hc;subst hu
   cases d with
   | v x=>exact Ro.v x h.1
   | sl sz ds=>
    cases ds with
    | nil=>exact ⟨(fL j).symm,rfl⟩
    | cons _ _=>cases h.1
   | _=>cases h.1
theorem fX.Zg {o:Oper} {Q:St→Prop} {t:TypeId} {parts:List (Nat×Operand)} (ho:o.op= .build t parts.toArray) {k:Nat} (hd:o.dst=some k) {fs:Array Field} (hu:P.underlying t=some (.struct fs))
  {it:TypeInfo} (hi:P.info? t=some it) {z:Value} (hz:it.zero=some z) {row:List D} (hrow:xR P 6 t=some row) (hv:z.cells.toList=row.map zeroV) (hok:row.all r9=true)
  {place:List (Nat×Nat)} (oF:fs.toList.mapM (fun f=>(P.info? f.type).map fun i=>(f.offset,i.size))=some place) {row':List D} (hr:row=row')
  {pc:List (Nat×List C)} (hp:r_ (st.fresh k ⟨false,(row'.filter xL).map C.own⟩) parts=some pc) {cs:List C} (hf:Co place (uD k 0 row') pc=some cs)
  (hq:Q ((st.fresh k ⟨false,(row'.filter xL).map C.own⟩).put (some k) (.one (.agg cs)))) (hkp:k < 1000000:=by decide):fX P w0 g0 o st Q:=fun a w g hR K Q' hK=>by
 subst hr
 have yy:cm ≠ k:=by simp only [cm];omega
 let g':Gh:={ g with cv:=fun k'=>if k'=k then fun _ _=> .slice none 0 0 else g.cv k' }
 have hS:nw w g w g' (· ≠ k):=⟨fun b hb=>⟨hb,rfl⟩,fun _ _ b _=>⟨rfl,rfl⟩,fun _ _=>rfl,fun k' hk'=>if_neg hk'⟩
 have hU:Rel w0 g0 (st.fresh k ⟨false,(row.filter xL).map C.own⟩) a w g':=by
  refine hR.grow hS ⟨hR.ks.os,hR.ks.tape,hR.ks.output,hR.ks.size,hR.ks.block,hR.ks.fresh,hR.ks.old,⟨fun q=>(by simp only [g',if_neg yy];exact hR.ks.uB.1 q),hR.ks.uB.2⟩,hR.ks.ie⟩ (fun q c hq=> ?_) (fun hm=>by cases hm)
  rw [List.getElem?_map,Option.map_eq_some_iff] at hq
  obtain ⟨d,hq,rfl⟩:=hq
  have hm:=List.mem_filter.1 (List.mem_of_getElem? hq)
  have hk:=List.all_eq_true.1 hok d hm.1
  cases d with
  | sl sz ds=>
   cases ds with
   | nil=>exact Ow.nil [] q sz (by simp [g'])
   | cons _ _=>cases hk
  | v x=>cases hm.2
  | _=>cases hk
 have Y4:RC w g' (uD k 0 row) z.cells.toList:=by
  rw [hv]
  exact Ir (fun q=>by simp [g']) row 0 hok
 obtain ⟨us,e1,e2⟩:=Bq hU hp hf Y4
 have hb:P.built t (parts.map fun p=>(p.1,a.eval p.2))=some us:=by
  unfold Program.built
  simp only [hi,hu,hz,oF]
  exact e1
 have hrun:=run_build (P:=P) w t (parts.toArray.map fun p=>(p.1,a.eval p.2)) us (by simpa using hb)
 simp only [List.map_toArray] at hrun
 have hrun2:(execOp a.eval o).run P w= .ok (.value (.agg us)) w:=by simp [execOp,ho,hrun]
 unfold Oper.wp
 rw [hrun2]
 refine hK _ _ _ g' hq ?_
 rw [hd]
 exact hU.put (.one _ _ (.agg _ us (by simpa using e2.1) fun j c u hc hu=>e2.2 j c u hc (by simpa using hu))) (some k)
theorem fX.Tb {o:Oper} {Q:St→Prop} {x y:Operand} {t t2 e e2:TypeId} (ho:o.op= .call { callee:= .builtin .append,args:= #[x,y],argTypes:= #[t,t2] }) {k:Nat} (hd:o.dst=some k) {k1 k2:Nat} (hx:T.cy 0 st x=some (.one (.c (.ref ⟨k1,[],0⟩))))
  (hy:T.cy 0 st y=some (.one (.c (.ref ⟨k2,[],0⟩)))) {sz:Nat} {ds ns:List D} (h1:st.root k1=some ⟨false,[.own (.sl sz ds)]⟩) (h2:st.root k2=some ⟨false,[.own (.sl sz ns)]⟩) (hne:k2 ≠ k1)
  (hnh:∀ d ∈ ns,∀ c ∈ d.row,c ≠ .hole) (ht:P.underlying t=some (.slice e)) (Ih:P.underlying t2=some (.slice e2)) {i:TypeInfo} {z:Value} (hi:P.info? e=some i) (hz:i.zero=some z)
  (hsz:i.size=sz) (hby:Nat.ble i.bytes 1048576=true) (hzs:z.cells.size=sz) (hlen:ds.length + ns.length ≤ 134217728)
  (hq:Q ((st.renew [k,k1,k2] k ⟨false,[.own (.sl sz (ds ++ ns))]⟩).put (some k) (.one (.c (.ref ⟨k,[],0⟩))))) (hkp:k < 1000000:=by decide):fX P w0 g0 o st Q:=by
 have hb:=Nat.le_of_ble_eq_true hby
 refine fX.append ho hd hx hy h1 h2 hne hnh ht Ih hi hz hsz rfl hzs (by simp only [most];omega) ?_ hq hkp
 calc (ds.length + ns.length) * i.bytes ≤ 134217728 * i.bytes:=Nat.mul_le_mul_right _ hlen
  _ ≤ 140737488355328:=by omega
end
abbrev S (s:ByteArray):TS:=V (.string s)
section
variable {P:Program} {w0:World} {g0:Gh} {st:St} {o:Oper} {ty ty':TypeId} {x y z:Operand}
theorem dQ.addS {a b:ByteArray} (ho:o.op= .binOp .add ty x y ty') (hx:T.cy 0 st x=some (S a)) (hy:T.cy 0 st y=some (S b)) (hl:a.size + b.size ≤ 9223372036854775807):dQ P w0 g0 o st (S (a ++ b)):=
 dQ.bin ho hx hy rfl (fun w=>by
  have hm:IntKind.i64.max=9223372036854775807:=by decide
  have:¬ (((a.size + b.size:Nat):Int) > IntKind.i64.max):=by rw [hm];omega
  rw [binOp_string_add]
  simp only [Op.stringOp,if_neg this]
  rfl) rfl
theorem dQ.rem {k:IntKind} {a b:Int} (ho:o.op= .binOp .rem ty x y ty') (hx:T.cy 0 st x=some (V (.int k a))) (hy:T.cy 0 st y=some (V (.int k b))) (hb:b ≠ 0):dQ P w0 g0 o st (V (.int k (a.tmod b))):=
 dQ.bin ho hx hy rfl (fun w=>by rw [binOp_rem];simp [Op.intDiv,hb]) rfl
theorem dQ.quo {a b:Int} (ho:o.op= .binOp .quo ty x y ty') (hx:T.cy 0 st x=some (I a)) (hy:T.cy 0 st y=some (I b)) (hb:b ≠ 0) (h1: -9223372036854775808 ≤ a.tdiv b) (h2:a.tdiv b ≤ 9223372036854775807):dQ P w0 g0 o st (I (a.tdiv b)):=
 dQ.bin ho hx hy rfl (fun w=>by rw [binOp_quo];simp [Op.intDiv,hb,wrap_i64 h1 h2]) rfl
theorem dQ.mul {a b:Int} (ho:o.op= .binOp .mul ty x y ty') (hx:T.cy 0 st x=some (I a)) (hy:T.cy 0 st y=some (I b)) (h1: -9223372036854775808 ≤ a * b) (h2:a * b ≤ 9223372036854775807):dQ P w0 g0 o st (I (a * b)):=
 dQ.bin ho hx hy rfl (fun w=>by rw [binOp_mul];simp only [Op.intArith];rw [wrap_i64 h1 h2];rfl) rfl
theorem dQ.neg {a:Int} (ho:o.op= .unOp .neg ty x) (hx:T.cy 0 st x=some (I a)) (h1: -9223372036854775807 ≤ a) (h2:a ≤ 9223372036854775807):dQ P w0 g0 o st (I (-a)):=
 fun s w g hR=>⟨.int .i64 (-a),fun w' _=>by
  have h:IntKind.i64.wrap (-a)= -a:=wrap_i64 (by omega) (by omega)
  simp [execOp,ho,hR.val hx,Op.unary,Op.intArith,h],yw rfl⟩
theorem dQ.conv {src dst:TypeId} {k k':IntKind} {a b:Int} (ho:o.op= .convert src dst x) (hx:T.cy 0 st x=some (V (.int k a))) (hs:(P.underlying src).isSome=true) (hk:P.intKind dst=k')
  (hd:P.underlying dst=some (.int (P.intKind dst))) (hb:k'.wrap a=b):dQ P w0 g0 o st (V (.int k' b)):=
 fun s w g hR=>⟨.int k' b,fun w' _=>by simp [execOp,ho,hR.val hx,run_convert_int (P:=P) w' src dst k a hs hd,hk,hb],yw rfl⟩
theorem dQ.Zh {s:ByteArray} {lo hi:Operand} {i j:Int} (ho:o.op= .slice ty x (some lo) (some hi) none) (hx:T.cy 0 st x=some (S s)) (hu:P.underlying ty=some .string) (hlo:T.cy 0 st lo=some (I i)) (hhi:T.cy 0 st hi=some (I j))
  (h0:0 ≤ i) (h1:i ≤ j) (h2:j ≤ s.size):dQ P w0 g0 o st (S (s.extract i.toNat j.toNat)):=
 fun a w g hR=>⟨.string (s.extract i.toNat j.toNat),fun w' _=>by
  obtain ⟨m,rfl⟩:=Int.eq_ofNat_of_zero_le h0
  obtain ⟨n,rfl⟩:=Int.eq_ofNat_of_zero_le (show 0 ≤ j by omega)
  have h3:(n:Int) ≤ s.size:=h2
  have h4:m ≤ n:=by omega
  have h5:n ≤ s.size:=by omega
  simp [execOp,ho,hR.val hx,hR.val hlo,hR.val hhi,Instr.sliceAt,Instr.slice,run_underlying hu,Instr.sliceBounds,Instr.sliceBound,asIntOf,h3,h4,h5],yw rfl⟩
end
def Hf (k1 q0 i0 j k:Nat):List (Nat×Nat)→Nat→Bool
 | [],_=>false
 | [(a,b)],q=>k == k1 && a == q0 && b == i0 && q == j
 | (a,b) :: (c,_) :: _,_=>k == k1 && a == q0 && b == i0 && c == j
def Gh.nB (g:Gh) (n k1 q0 i0 j:Nat):Gh where
 o b:=if n ≤ b then .outer else match g.o b with
  | .cQ k' p q=>if Hf k1 q0 i0 j k' p q then (match p with|_ :: (_,i) :: r=> .cQ cm ((0,i) :: r) q|_=> .cQ cm [] 0) else .ro
  | _=> .ro
 ad k p:=if k=cm then (match p with|(_,i) :: r=>g.ad k1 ((q0,i0) :: (j,i) :: r)| []=>(0,0)) else g.ad k p
 cv k p q:=if k=cm then (match p with|(_,i) :: r=>g.cv k1 ((q0,i0) :: (j,i) :: r) q| []=>g.cv k1 [(q0,i0)] j) else g.cv k p q
def Gh.sS (g gc g':Gh) (n n' k1 q0 i0 j:Nat):Gh where
 o b:=if b < n∧(gc.o b).Wv=true then g.o b else if b < n' then (match g'.o b with
   | .cQ k' p q=>if k'=cm then (match p with|(_,i) :: r=> .cQ k1 ((q0,i0) :: (j,i) :: r) q| []=> .cQ k1 [(q0,i0)] j) else .ro
   | _=> .ro) else .outer
 ad k p:=match p with
  | (a,b) :: (c,i) :: r=>if k=k1∧a=q0∧b=i0∧c=j then g'.ad cm ((0,i) :: r) else g.ad k p
  | _=>g.ad k p
 cv k p q:=match p with
  | (a,b) :: (c,i) :: r=>if k=k1∧a=q0∧b=i0∧c=j then g'.cv cm ((0,i) :: r) q else g.cv k p q
  | _=>g.cv k p q
theorem Oi {k1 q0 i0 j k:Nat} {p:List (Nat×Nat)} {q:Nat} (h:Hf k1 q0 i0 j k p q=true):k=k1∧Un [(q0,i0)] j p q:=by
 match p,h with
 | [(a,b)],h=>
  simp only [Hf,Bool.and_eq_true,beq_iff_eq] at h
  obtain ⟨⟨⟨rfl,rfl⟩,rfl⟩,rfl⟩:=h
  exact ⟨rfl, .inl ⟨rfl,rfl⟩⟩
 | (a,b) :: (c,i) :: r,h=>
  simp only [Hf,Bool.and_eq_true,beq_iff_eq] at h
  obtain ⟨⟨⟨rfl,rfl⟩,rfl⟩,rfl⟩:=h
  exact ⟨rfl, .inr ⟨i,r,rfl⟩⟩
theorem Ru {e c:D} {j:Nat} (hj:j < e.row.length) (hc:c.row=[c]):(e.pn (e.row.set j c)).row=e.row.set j c:=by
 cases e with
 | st ds=>rfl
 | _=>
  simp only [D.row,List.length_cons,List.length_nil] at hj
  obtain rfl:j=0:=by omega
  simp only [D.row,List.set_cons_zero,D.pn]
  exact hc
def St.nest (st:St) (k1 q0 i0 j:Nat) (d:D):Option St:=
 match st.root k1 with
 | some r=>match r.row[q0]? with
  | some (.own (.sl sz ds))=>match ds[i0]? with
   | some e=>some ((st.kill (dP k1 [(q0,i0)] j) (u7 k1 [(q0,i0)] j)).cq k1 ⟨r.mem,(r.row.map (C.kill (dP k1 [(q0,i0)] j))).set q0 (.own (.sl sz (ds.set i0 (e.pn (e.row.set j d)))))⟩)
   | none=>none
  | _=>none
 | none=>none
section
variable {P:Program} {w0:World} {g0:Gh} {st:St} {a:Act} {w:World} {g:Gh} {k1 q0 i0 j sz P6:Nat} {rt:Rt} {ds Oj:List D} {e:D}
theorem Rel.Rv (hR:Rel w0 g0 st a w g) {b:Nat} (hb:g.o b ≠ .outer):b < w.heap.size:=by
 rcases Nat.lt_or_ge b w.heap.size with h|h
 exact h
 exact absurd (hR.ks.fresh b h) hb
theorem Rel.Zi (hR:Rel w0 g0 st a w g) (hk:st.root k1=some rt) (hq:rt.row[q0]? = some (.own (.sl sz ds))) (he:ds[i0]? = some e) (hj:e.row[j]? = some (.sl P6 Oj)):Ow w g k1 [(q0,i0)] j (.sl P6 Oj):=by
 have hO:Ow w g k1 [] q0 (.sl sz ds):=hR.rt.cell k1 rt hk q0 _ hq
 cases hO with
 | nil _ _ _ _=>simp at he
 | sl _ _ _ _ b off n c cs t hc hn hm hnc uA ho hb hfit hrow had hcell hel=>exact hel i0 e he j _ hj
theorem Rel.WA (hR:Rel w0 g0 st a w g) (hO:Ow w g k1 [(q0,i0)] j (.sl P6 Oj)):Handed w (g.nB w.heap.size k1 q0 i0 j) ⟨false,[.sl P6 Oj]⟩:=by
 refine ⟨fun b hb=> ?_,fun b hb=> ?_,fun b=> ?_,fun q d hq=> ?_,fun h=>by cases h⟩
 simp only [Gh.nB,if_pos hb]
 simp only [Gh.nB,if_neg (Nat.not_le.2 hb)]
 split
 split
 split <;> exact .inr rfl
 exact .inl rfl
 exact .inl rfl
 simp only [Gh.nB]
 split
 simp
 split
 split
 split <;> simp
 simp
 simp
 cases q with
 | succ q=>simp at hq
 | zero=>
  simp only [List.getElem?_cons_zero,Option.some.injEq] at hq
  subst hq
  show Ow w _ cm [] 0 _
  refine Ow.move hO ⟨by simp [Gh.nB],fun i r q'=>by simp [Gh.nB],fun i r=>by simp [Gh.nB],fun b hb=>⟨?_,rfl⟩,fun b i r q' hb=>⟨?_,rfl⟩⟩
  have:=hR.Rv (b:=b) (by rw [hb];simp)
  simp [Gh.nB,Nat.not_le.2 this,hb,Hf]
  have:=hR.Rv (b:=b) (by rw [hb];simp)
  simp [Gh.nB,Nat.not_le.2 this,hb,Hf]
theorem Rel.sS (hR:Rel w0 g0 st a w g) (hk:st.root k1=some rt) (hq:rt.row[q0]? = some (.own (.sl sz ds))) (he:ds[i0]? = some e) (hj:e.row[j]? = some (.sl P6 Oj)) {k NV:Nat} {NW:List D} {r:mR} {v:Value} {w':World} {g':Gh}
  (hG:mV w (g.nB w.heap.size k1 q0 i0 j) ⟨false,[.sl P6 Oj]⟩ k [.sl NV NW] r v w' g') {bD:St} (hst:st.nest k1 q0 i0 j (.sl NV NW)=some bD):∃ g2,Rel w0 g0 bD a w' g2:=by
 generalize Oh:g.nB w.heap.size k1 q0 i0 j=gc at hG
 refine ⟨g.sS gc g' w.heap.size w'.heap.size k1 q0 i0 j, ?_⟩
 generalize mS:g.sS gc g' w.heap.size w'.heap.size k1 q0 i0 j=g2
 have Rw:∀ b,b < w.heap.size→gc.o b= .ro→w'.heap[b]? = w.heap[b]? ∧g2.o b=g.o b:=fun b hb h=>⟨hG.block b hb h,by
  subst mS
  simp only [Gh.sS,h]
  rw [if_pos ⟨hb,rfl⟩]⟩
 have hplain:∀ b,b < w.heap.size→(∀ k' p q,g.o b= .cQ k' p q→Hf k1 q0 i0 j k' p q=false)→gc.o b= .ro:=fun b hb h=>by
  subst Oh
  simp only [Gh.nB,if_neg (Nat.not_le.2 hb)]
  split
  ·rename_i k' p q gY
   rw [if_neg (by rw [h k' p q gY];simp)]
  ·rfl
 have fL:∀ k' p q,Hf k1 q0 i0 j k' p q=false→g2.cv k' p q=g.cv k' p q:=fun k' p q h=>by
  subst mS
  match p,h with
  | [],_=>rfl
  | [_],_=>rfl
  | (a,b) :: (c,i) :: r,h=>
   simp only [Gh.sS]
   rw [if_neg]
   rintro ⟨rfl,rfl,rfl,rfl⟩
   simp [Hf] at h
 have had:∀ k' p,(∀ q,Hf k1 q0 i0 j k' p q=false ∨ ∃ x,p=[x])→g2.ad k' p=g.ad k' p:=fun k' p h=>by
  subst mS
  match p,h with
  | [],_=>rfl
  | [_],_=>rfl
  | (a,b) :: (c,i) :: r,h=>
   simp only [Gh.sS]
   rw [if_neg]
   rintro ⟨rfl,rfl,rfl,rfl⟩
   rcases h 0 with h|⟨x,h⟩
   ·simp [Hf] at h
   ·simp at h
 have Zj:∀ k' p q d,(∀ i r q',Hf k1 q0 i0 j k' (p ++ (q,i) :: r) q'=false)→Hf k1 q0 i0 j k' p q=false→(∀ i r,k'=k1→p ++ (q,i) :: r ≠ [(q0,i0)] ∨ True)→Ow w g k' p q d→Ow w' g2 k' p q d:=fun k' p q d h1 h2 _ h3=>by
  refine Ow.move h3 ⟨fL _ _ _ h2,fun i r q'=>fL _ _ _ (h1 i r q'),fun i r=>had _ _ fun q'=> .inl (h1 i r q'),fun b hb=> ?_,fun b i r q' hb=> ?_⟩
  ·have hlt:=hR.Rv (b:=b) (by rw [hb];simp)
   have:=Rw b hlt (hplain b hlt fun k2 p2 q2 e2=>by rw [hb] at e2;cases e2;exact h2)
   exact ⟨by rw [this.2];exact hb,this.1⟩
  ·have hlt:=hR.Rv (b:=b) (by rw [hb];simp)
   have:=Rw b hlt (hplain b hlt fun k2 p2 q2 e2=>by rw [hb] at e2;cases e2;exact h1 i r q')
   exact ⟨by rw [this.2];exact hb,this.1⟩
 have Ta:∀ k' x q,g2.cv k' [x] q=g.cv k' [x] q:=fun k' x q=>by subst mS;rfl
 have Wy:∀ k' x,g2.ad k' [x]=g.ad k' [x]:=fun k' x=>by subst mS;rfl
 have hrow0:Ow w' g' cm [] 0 (.sl NV NW):=hG.hrow 0 _ rfl
 have G_:g'.cv cm [] 0=g.cv k1 [(q0,i0)] j:=by rw [hG.Ze rfl 0 (by simp)];subst Oh;simp [Gh.nB]
 have Mb:∀ b p q,g'.o b= .cQ cm p q→g2.o b=(match p with|(_,i) :: r=> .cQ k1 ((q0,i0) :: (j,i) :: r) q| []=> .cQ k1 [(q0,i0)] j):=fun b p q hb=>by
  obtain ⟨h1,h2⟩:=hG.old b (.inr (by rw [hb];rfl))
  subst mS
  simp only [Gh.sS,hb,if_true,if_pos h1]
  rw [if_neg]
  rintro ⟨h3,h4⟩
  rcases h2 with h2|h2
  ·omega
  ·exact h2 (Es.1 h4)
 have hN:Ow w' g2 k1 [(q0,i0)] j (.sl NV NW):=by
  refine Ow.move hrow0 ⟨by rw [Ta,G_],fun i r q'=>by subst mS;simp [Gh.sS],fun i r=>by subst mS;simp [Gh.sS],fun b hb=>⟨?_,rfl⟩,fun b i r q' hb=>⟨?_,rfl⟩⟩
  ·rw [Mb b _ _ hb]
  ·rw [Mb b _ _ hb];rfl
 have hO:Ow w g k1 [] q0 (.sl sz ds):=hR.rt.cell k1 rt hk q0 _ hq
 have hjl:j < e.row.length:=(List.getElem?_eq_some_iff.1 hj).1
 have hO':Ow w' g2 k1 [] q0 (.sl sz (ds.set i0 (e.pn (e.row.set j (.sl NV NW))))):=by
  have Yl:=Ru (e:=e) (c:= .sl NV NW) hjl rfl
  cases hO with
  | nil _ _ _ _=>simp at he
  | sl _ _ _ _ b off n c cs t hc hn hm hnc uA ho hb hfit hrow Zk hcell hel=>
   have hlt:=jL hb
   have hs:=Rw b hlt (hplain b hlt fun k2 p2 q2 e2=>by rw [ho] at e2;cases e2;rfl)
   refine .sl [] q0 sz _ b off n c cs t (by rw [fL _ _ _ rfl];exact hc) (by simpa using hn) hm hnc uA (by rw [hs.2];exact ho) (by rw [hs.1];exact hb) hfit (fun d hd=> ?_) (fun i hi=> ?_) (fun i j' hi hj'=> ?_) (fun i d hd j' c' hj'=> ?_)
   ·rcases List.mem_or_eq_of_mem_set hd with h|h
    ·exact hrow d h
    ·rw [h,Yl,List.length_set];exact hrow e (List.mem_of_getElem? he)
   ·show g2.ad k1 [(q0,i)]=_
    rw [Wy];exact Zk i hi
   ·show _=some (g2.cv k1 [(q0,i)] j')
    rw [iP hs.1,Ta];exact hcell i j' hi hj'
   ·show Ow w' g2 k1 [(q0,i)] j' c'
    by_cases hi:i=i0
    ·subst hi
     rw [List.getElem?_set_self (List.getElem?_eq_some_iff.1 he).1] at hd
     simp only [Option.some.injEq] at hd
     subst hd
     rw [Yl] at hj'
     by_cases hjj:j'=j
     ·subst hjj
      rw [List.getElem?_set_self hjl] at hj'
      simp only [Option.some.injEq] at hj'
      subst hj'
      exact hN
     ·rw [List.getElem?_set_ne (Ne.symm hjj)] at hj'
      exact Zj k1 [(q0,i)] j' c' (fun i2 r q'=>by simp [Hf,hjj]) (by simp [Hf,hjj]) (fun _ _ _=> .inr trivial) (hel i e he j' c' hj')
    ·rw [List.getElem?_set_ne (Ne.symm hi)] at hd
     exact Zj k1 [(q0,i)] j' c' (fun i2 r q'=>by simp [Hf,hi]) (by simp [Hf,hi]) (fun _ _ _=> .inr trivial) (hel i d hd j' c' hj')
 have hA:oD w g w' g2 (dP k1 [(q0,i0)] j) (u7 k1 [(q0,i0)] j):=by
  refine ⟨fun b hb=> ?_,fun pl hp=> ?_,fun pl hp=> ?_⟩
  ·have hlt:=hR.Rv (b:=b) (by rw [hb];simp)
   have:=Rw b hlt (hplain b hlt fun k2 p2 q2 e2=>by rw [hb] at e2;cases e2)
   exact ⟨by rw [this.2];exact hb,this.1⟩
  ·refine fL _ _ _ ?_
   cases hu:Hf k1 q0 i0 j pl.k pl.p pl.q with
   | false=>rfl
   | true=>exact absurd (Oi hu) (zJ hp)
  ·refine had _ _ fun q=> ?_
   cases hu:Hf k1 q0 i0 j pl.k pl.p q with
   | false=>exact .inl rfl
   | true=>
    obtain ⟨h1,h2⟩:=Oi hu
    rcases h2 with ⟨h2,_⟩|⟨i,r,h2⟩
    ·exact .inr ⟨_,h2⟩
    ·exact absurd ⟨h1,i,r,h2⟩ (PO hp)
 have Tc:∀ k' q c,(k'=k1→q ≠ q0)→lE w g k' q c→lE w' g2 k' q (c.kill (dP k1 [(q0,i0)] j)):=fun k' q c hne h3=>by
  have YW:∀ i r q',Hf k1 q0 i0 j k' ([] ++ (q,i) :: r) q'=false:=fun i r q'=>by
   cases hu:Hf k1 q0 i0 j k' ([] ++ (q,i) :: r) q' with
   | false=>rfl
   | true=>
    obtain ⟨h1,h2⟩:=Oi hu
    rcases h2 with ⟨h2,_⟩|⟨i2,r2,h2⟩ <;>
     (simp only [List.nil_append,List.cons_append,List.cons.injEq,Prod.mk.injEq] at h2;exact absurd h2.1.1 (hne h1))
  cases c with
  | ro d=>show Ro w' _ d _;rw [fL _ _ _ rfl];exact Ro.mono hA.ro h3
  | own d=>exact Zj k' [] q d YW rfl (fun _ _ _=> .inr trivial) h3
  | ref pl=>
   have h4:g.cv k' [] q=g.cv pl.k pl.p pl.q∧(g.cv k' [] q).oneCell'=true:=h3
   simp only [C.kill]
   cases hp:dP k1 [(q0,i0)] j pl with
   | true=>trivial
   | false=>
    show g2.cv k' [] q=g2.cv pl.k pl.p pl.q∧(g2.cv k' [] q).oneCell'=true
    rw [fL _ _ _ rfl,hA.cv pl hp]
    exact h4
  | dead=>trivial
 unfold St.nest at hst
 simp only [hk,hq,he,Option.some.injEq] at hst
 subst hst
 have gk:∀ k' r',((st.kill (dP k1 [(q0,i0)] j) (u7 k1 [(q0,i0)] j)).cq k1 ⟨rt.mem,(rt.row.map (C.kill (dP k1 [(q0,i0)] j))).set q0 (.own (.sl sz (ds.set i0 (e.pn (e.row.set j (.sl NV NW))))))⟩).root k'=some r'→
   (k'=k1∧r'=⟨rt.mem,(rt.row.map (C.kill (dP k1 [(q0,i0)] j))).set q0 (.own (.sl sz (ds.set i0 (e.pn (e.row.set j (.sl NV NW))))))⟩) ∨ (k' ≠ k1∧∃ r1,st.root k'=some r1∧r'=r1.kill (dP k1 [(q0,i0)] j)):=fun k' r' h=>by
  rw [St.c7] at h
  split at h
  ·rename_i e1
   simp only [Option.some.injEq] at h
   exact .inl ⟨e1,h.symm⟩
  ·rename_i e1
   rw [St.jl,Option.map_eq_some_iff] at h
   obtain ⟨r1,h1,h2⟩:=h
   exact .inr ⟨e1,r1,h1,h2.symm⟩
 refine hR.change hA rfl ⟨fun k' r' hk' q c hc=> ?_,fun k' r' hk' hm=> ?_⟩ ?_
 ·rcases gk k' r' hk' with ⟨rfl,rfl⟩|⟨h1,r1,h3,rfl⟩
  ·rw [List.getElem?_set] at hc
   by_cases e1:q0=q
   ·subst e1
    rw [if_pos rfl] at hc
    split at hc
    ·simp only [Option.some.injEq] at hc
     subst hc
     exact hO'
    ·cases hc
   ·rw [if_neg e1,List.getElem?_map,Option.map_eq_some_iff] at hc
    obtain ⟨c1,h4,rfl⟩:=hc
    exact Tc k' q c1 (fun _ h=>e1 h.symm) (hR.rt.cell k' rt hk q c1 h4)
  ·simp only [Rt.kill,List.getElem?_map,Option.map_eq_some_iff] at hc
   obtain ⟨c1,h4,rfl⟩:=hc
   exact Tc k' q c1 (fun h=>absurd h h1) (hR.rt.cell k' r1 h3 q c1 h4)
 ·have hmem:∀ k' r1,st.root k'=some r1→r1.mem=true→g2.o (g2.ad k' []).1= .box k'∧(∃ cs e,w'.heap[(g2.ad k' []).1]? = some (.cells cs e (0,0)))∧∀ q,q < r1.row.length→w'.cell? (bg (g2.ad k' []) q)=some (g2.cv k' [] q):=fun k' r1 h2 h3=>by
   obtain ⟨m1,⟨cs,t,m2⟩,m3⟩:=hR.rt.mem k' r1 h2 h3
   have hlt:=jL m2
   have hs:=Rw _ hlt (hplain _ hlt fun k2 p2 q2 e2=>by rw [m1] at e2;cases e2)
   rw [had _ _ fun q=> .inl rfl]
   refine ⟨by rw [hs.2];exact m1,⟨cs,t,by rw [hs.1];exact m2⟩,fun q hq=> ?_⟩
   rw [fL _ _ _ rfl, ← m3 q hq]
   exact World.cell?_of_block (w:=w) hs.1
  rcases gk k' r' hk' with ⟨rfl,rfl⟩|⟨h1,r1,h3,rfl⟩
  ·obtain ⟨m1,m2,m3⟩:=hmem k' rt hk hm
   exact ⟨m1,m2,fun q hq=>m3 q (by simpa using hq)⟩
  ·obtain ⟨m1,m2,m3⟩:=hmem k' r1 h3 hm
   exact ⟨m1,m2,fun q hq=>m3 q (by simpa [Rt.kill] using hq)⟩
 ·have wG:=hR.ks
  refine ⟨hG.os.trans wG.os,hG.tape.trans wG.tape,hG.output.trans wG.output,Nat.le_trans wG.size hG.size,fun b hb hx=> ?_,fun b hb=> ?_,fun b hb hx=> ?_,⟨fun q=> ?_, ?_⟩,fun b hb=> ?_⟩
  ·obtain ⟨h1,h2⟩:=wG.block b hb hx
   have hlt:b < w.heap.size:=Nat.lt_of_lt_of_le hb wG.size
   have hs:=Rw b hlt (hplain b hlt fun k2 p2 q2 e2=>by rw [h2] at e2;rcases hx with hx|hx <;> rw [hx] at e2 <;> cases e2)
   exact ⟨by rw [hs.1];exact h1,by rw [hs.2];exact h2⟩
  ·have:=hG.size
   subst mS
   simp only [Gh.sS]
   rw [if_neg (fun h=>by omega),if_neg (by omega)]
  ·subst mS
   simp only [Gh.sS] at hx
   split at hx
   ·rename_i h1
    exact wG.old b h1.1 hx
   ·repeat' split at hx
    all_goals first|(cases hx;done)|omega
  ·rw [fL _ _ _ rfl];exact wG.uB.1 q
  ·rw [had _ _ fun q=> .inl rfl];exact wG.uB.2
  ·subst mS
   simp only [Gh.sS] at hb
   split at hb
   ·exact wG.ie b hb
   ·repeat' split at hb
    all_goals cases hb
inductive Mc (k1 q0 i0 j:Nat):TS→TS→Prop
 | ro (d:D):Mc k1 q0 i0 j (.one (.c (.ro d))) (.one (.c (.ro d)))
 | it:Mc k1 q0 i0 j (.one (.c (.ref ⟨k1,[(q0,i0)],j⟩))) (.one (.c (.ref ⟨cm,[],0⟩)))
inductive tH (k1 q0 i0 j:Nat):List TS→List TS→Prop
 | nil:tH k1 q0 i0 j [] []
 | cons {t t':TS} {ts ts':List TS} (h:Mc k1 q0 i0 j t t') (hs:tH k1 q0 i0 j ts ts'):tH k1 q0 i0 j (t :: ts) (t' :: ts')
theorem tH.get:∀ {ts ts':List TS},tH k1 q0 i0 j ts ts'→ts'.length=ts.length∧∀ (i:Nat) t',ts'[i]? = some t'→∃ t,ts[i]? = some t∧Mc k1 q0 i0 j t t'
 | _,_, .nil=>⟨rfl,fun i t' h=>by simp at h⟩
 | _,_, .cons h hs=>by
  obtain ⟨h1,h2⟩:=hs.get
  refine ⟨by simp [h1],fun i t' hi=> ?_⟩
  cases i with
  | zero=>
   simp only [List.getElem?_cons_zero,Option.some.injEq] at hi
   subst hi
   exact ⟨_,rfl,h⟩
  | succ i=>exact h2 i t' (by simpa using hi)
theorem Rel.giveN (hR:Rel w0 g0 st a w g) {t t':TS} {u:Value} (hg:Mc k1 q0 i0 j t t') (hu:dy w g t u):dy w (g.nB w.heap.size k1 q0 i0 j) t' u:=by
 cases hg with
 | ro d=>
  cases hu with
  | one _ _ hu=>
   cases hu with
   | c _ _ hu=>
    refine .one _ _ (.c (.ro d) _ ?_)
    refine Ro.mono (w:=w) (o:=g.o) (fun b hb=>⟨?_,rfl⟩) hu
    have:=hR.Rv (b:=b) (by rw [hb];simp)
    simp [Gh.nB,Nat.not_le.2 this,hb]
 | it=>
  cases hu with
  | one _ _ hu=>
   cases hu with
   | c _ _ hu=>
    have h1:u=g.cv k1 [(q0,i0)] j∧u.oneCell'=true:=hu
    refine .one _ _ (.c (.ref ⟨cm,[],0⟩) _ ?_)
    show u=(g.nB w.heap.size k1 q0 i0 j).cv cm [] 0∧u.oneCell'=true
    exact ⟨by simp [Gh.nB,h1.1],h1.2⟩
end
set_option maxRecDepth 100000
section
variable {P:Program} {w0:World} {g0:Gh} {st:St}
end
def reaches (md:Region.Mode) (ops:Array Oper):Nat→Nat→Nat→Bool
 | 0,_,_=>false
 | n + 1,j,i=>match ops[j]? with
  | none=>false
  | some o=>o.after.any fun e=>Region.binds md e && (e.on == i || reaches md ops n e.on i)
def tI (md:Region.Mode) (ops:Array Oper) (listed:Array Bool):Prop:=
 ∀ j o,ops[j]? = some o→listed.getD j false=true→∀ e ∈ o.after,Region.binds md e=true→listed.getD e.on false=true
theorem tI.set {md:Region.Mode} {ops:Array Oper} {listed:Array Bool} (h:tI md ops listed) {i:Nat} (hi:i ∈ Region.ready md ops listed):tI md ops (listed.setIfInBounds i true):=fun j o ho hj e he hb=>by
 by_cases hji:i=j
 subst hji
 obtain ⟨_,o',ho',hall⟩:=mem_ready.1 hi
 rw [ho] at ho'
 cases ho'
 exact getD_set_true (hall e he hb)
 rw [getD_set_ne false hji] at hj
 exact getD_set_true (h j o ho hj e he hb)
theorem qo {md:Region.Mode} {ops:Array Oper} {listed:Array Bool} (hc:tI md ops listed) {i:Nat}:∀ (n j:Nat),(∀ o,ops[j]? = some o→∀ e ∈ o.after,Region.binds md e=true→listed.getD e.on false=true)→
  reaches md ops n j i=true→listed.getD i false=true
 | 0,j,_,h=>by simp [reaches] at h
 | n + 1,j,hj,h=>by
  unfold reaches at h
  cases ho:ops[j]? with
  | none=>rw [ho] at h;cases h
  | some o=>
   rw [ho] at h
   simp only [Array.any_eq_true] at h
   obtain ⟨t,ht,h⟩:=h
   simp only [Bool.and_eq_true,Bool.or_eq_true,beq_iff_eq] at h
   have hl:=hj o ho o.after[t] (Array.getElem_mem ht) h.1
   rcases h.2 with h2|h2
   rw [← h2];exact hl
   exact qo hc n _ (fun o' ho' e he hb=>hc _ o' ho' hl e he hb) h2
section
variable {P:Program} {ops:Array Oper} {md:Region.Mode} {Q:Exit→Act→World→Prop} {wr:Nat}
theorem Ol {i:Nat} {a:Act} {w:World} {K K':Act→World→Prop} (h:∀ a w,K a w→K' a w) (hh:wpOp P ops Q i K a w):wpOp P ops Q i K' a w:=by
 unfold wpOp at *
 split
 rename_i ho;simp only [ho] at hh;exact h _ _ hh
 rename_i o ho
 simp only [ho] at hh
 split
 rename_i hw
 simp only [hw,if_true] at hh
 rcases hh with hh|hh
 exact .inl (Oper.wp_mono h hh)
 exact .inr hh
 rename_i hw;simp only [hw] at hh;exact h _ _ hh
end
section
variable {P:Program} {w0:World} {g0:Gh} {st:St}
theorem rq.P5 {o:Oper} {bD:St} {Q:St→Prop} {f:FuncId} {cx:Operand} {args:List Operand} {nL:Array TypeId} {fn:Func}
  (ho:o.op= .call { callee:= .value cx,args:=args.toArray,argTypes:=nL }) (lA:T.cy 0 st cx=some (.fn f [])) (hf:P.funcs[f]? = some fn) (hb:fn.body.isNone=false)
  (hn : (fn.name == "runtime.NumGoroutine") = false) {ts ts' : List TS} (hx : jI st args = some ts) {t : TS} {x : Value} (hc : xI P w0 g0 f ts' (RP t)) (hs : rD st ts ts') (hp : oG t = some x)
  (JN:st.put o.dst t=bD) (hq:Q bD):rq P w0 g0 o st Q:=fun a w g hR K' JQ=>by
 have h1:=hR.jI hx
 have h2:=hs.get
 have jo:=hc w hR.ks.kept { g with o:=ij w } (args.map a.eval).toArray 0 rfl (by simp [h1.1,h2.1]) (fun i t' u hi hu=>by
  obtain ⟨t,h3,h4⟩:=h2.2 i t' hi
  exact hR.ru h4 (h1.2 i t u h3 (by simpa using hu)) _ rfl)
 rw [kk hR ho lA hf hb hn w]
 refine ⟨gw.refl w,jo.mono fun e w' ⟨v,r,g',he,hr,hG⟩=> ?_⟩
 have h5:=hG.val
 rw [hr] at h5
 have h6:=(gH hp).1 h5
 subst h6
 exact ⟨v,he,hG.later,JQ _ _ _ _ hq (JN ▸ (hR.later hG.later).put ((gH hp).2 rfl) o.dst)⟩
end
section
variable {P:Program} {w0:World} {g0:Gh} {st:St} {o:Oper} {ty e:TypeId} {x y:Operand}
end
def Gh.takeN (g:Gh) (k1:Nat) (p1:List (Nat×Nat)) (q1 L:Nat):Gh where
 o b:=match g.o b with
  | .cQ k' P Q=>if k'=k1 then (if P=p1∧Q=q1 then .cQ L [] 0 else match behind p1 q1 P with|some (i,r)=> .cQ L ((0,i) :: r) Q|none=> .cQ k' P Q) else if k'=L then .ro else .cQ k' P Q
  | .box k'=>if k'=L then .ro else .box k'
  | t=>t
 ad k' P:=if k'=L then (match P with| []=>(0,0)|(_,i) :: r=>g.ad k1 (p1 ++ (q1,i) :: r)) else g.ad k' P
 cv k' P Q:=if k'=L then (match P with| []=>g.cv k1 p1 q1|(_,i) :: r=>g.cv k1 (p1 ++ (q1,i) :: r) Q) else g.cv k' P Q
section
variable {w:World} {g:Gh} {k1:Nat} {p1:List (Nat×Nat)} {q1 L:Nat}
theorem jZ {k':Nat} (h:k' ≠ L) (P:List (Nat×Nat)) (Q:Nat):(g.takeN k1 p1 q1 L).cv k' P Q=g.cv k' P Q:=by simp only [Gh.takeN,if_neg h]
theorem qq {k':Nat} (h:k' ≠ L) (P:List (Nat×Nat)):(g.takeN k1 p1 q1 L).ad k' P=g.ad k' P:=by simp only [Gh.takeN,if_neg h]
theorem Td {b:Nat} (h:g.o b= .ro):(g.takeN k1 p1 q1 L).o b= .ro:=by simp [Gh.takeN,h]
theorem Is {b k':Nat} (h:k' ≠ L) (hb:g.o b= .box k'):(g.takeN k1 p1 q1 L).o b= .box k':=by simp [Gh.takeN,hb,h]
theorem tJ {b k':Nat} {P:List (Nat×Nat)} {Q:Nat} (h:k' ≠ L) (hn:k'=k1→¬ Un p1 q1 P Q) (hb:g.o b= .cQ k' P Q):(g.takeN k1 p1 q1 L).o b= .cQ k' P Q:=by
 simp only [Gh.takeN,hb]
 by_cases e:k'=k1
 have hn':=hn e
 rw [if_pos e,if_neg (fun h=>hn' (.inl ⟨h.1,h.2⟩)),rB (fun ⟨i,r,hx⟩=>hn' (.inr ⟨i,r,hx⟩))]
 rw [if_neg e,if_neg h]
theorem Te {b:Nat} (hb:g.o b= .cQ k1 p1 q1):(g.takeN k1 p1 q1 L).o b= .cQ L [] 0:=by simp [Gh.takeN,hb]
theorem Tf {b i Q:Nat} {r:List (Nat×Nat)} (hb:g.o b= .cQ k1 (p1 ++ (q1,i) :: r) Q):(g.takeN k1 p1 q1 L).o b= .cQ L ((0,i) :: r) Q:=by
 simp only [Gh.takeN,hb,if_true,n9]
 rw [if_neg]
 rintro ⟨h,_⟩
 have:=congrArg List.length h
 simp at this
theorem tK {k':Nat} {P:List (Nat×Nat)} {Q:Nat} {d:D} (h:k' ≠ L) (hn:k'=k1→¬ Un P Q p1 q1∧¬ Un p1 q1 P Q) (hr:Ow w g k' P Q d):Ow w (g.takeN k1 p1 q1 L) k' P Q d:=by
 refine Ow.move hr ⟨jZ h _ _,fun i r q'=>jZ h _ _,fun i r=>qq h _,fun b hb=>⟨tJ h (fun e=>(hn e).2) hb,rfl⟩,fun b i r q' hb=>⟨tJ h (fun e hu=> ?_) hb,rfl⟩⟩
 rcases Un.both (p:=P) (q:=Q) (.inr ⟨i,r,rfl⟩) hu with hx|hx
 exact (hn e).1 hx
 exact (hn e).2 hx
theorem Un.WB {p p':List (Nat×Nat)} {q q':Nat} (h:Un p q p' q'):p.length ≤ p'.length:=by
 rcases h with ⟨h,_⟩|⟨i,r,h⟩
 rw [h];exact Nat.le_refl _
 rw [h];simp
theorem WC {e:D} {r:List (Nat×Nat)} {q:Nat} {er:List D} (pZ:setAt e.row r q .hole=some er):(e.pn er).row=er:=by
 have LL:=mT r e.row q .hole er pZ
 refine D.Ib e er LL (fun x hx hst=> ?_)
 subst hx
 cases r with
 | nil=>
  simp only [setAt] at pZ
  split at pZ
  simp only [Option.some.injEq] at pZ
  cases e with
  | st ds=>exact absurd rfl (hst ds)
  | _=>
   simp only [D.row,List.length_cons,List.length_nil] at *
   have Sq:q=0:=by omega
   subst Sq
   simp only [List.set_cons_zero,List.cons.injEq,and_true] at pZ
   subst pZ
   rfl
  cases pZ
 | cons y r=>
  obtain ⟨y1,y2⟩:=y
  simp only [setAt] at pZ
  split at pZ
  rename_i sz' ds' hy
  split at pZ
  simp only [Option.map_eq_some_iff] at pZ
  obtain ⟨z,_,hz⟩:=pZ
  cases e with
  | st ds=>exact absurd rfl (hst ds)
  | _=>
   simp only [D.row] at *
   cases y1 with
   | zero=>
    simp only [List.set_cons_zero,List.cons.injEq,and_true] at hz
    subst hz
    rfl
   | succ y1=>simp at hy
  cases pZ
  cases pZ
theorem Md {p0:List (Nat×Nat)} {q0 i:Nat} {r:List (Nat×Nat)} {sz:Nat} {ds:List D} {e:D} {er:List D} (hL:k1 ≠ L) (hp:p1=p0 ++ (q0,i) :: r) (N0:Ow w g k1 p0 q0 (.sl sz ds)) (he:ds[i]? = some e)
  (pZ:setAt e.row r q1 .hole=some er) (hin:uC w (g.takeN k1 p1 q1 L) k1 (p0 ++ [(q0,i)]) er):Ow w (g.takeN k1 p1 q1 L) k1 p0 q0 (.sl sz (ds.set i (e.pn er))):=by
 have LL:=mT r e.row q1 .hole er pZ
 have SD:=WC pZ
 have hlen:p1.length=p0.length + 1 + r.length:=by rw [hp];simp;omega
 cases N0 with
 | nil _ _ _ hc=>simp at he
 | sl _ _ _ _ b off n c cs ty hc hn hm hnc uA ho hb hfit hro LM hcell hel=>
  refine .sl p0 q0 sz _ b off n c cs ty (by rw [jZ hL];exact hc) (by rw [List.length_set];exact hn) hm hnc uA (tJ hL (fun _ hu=>by have:=hu.WB;omega) ho) hb hfit (fun d hd=> ?_)
   (fun j hj=>by rw [qq hL];exact LM j hj) (fun j j2 hj hj2=>by rw [jZ hL];exact hcell j j2 hj hj2) (fun j d hd j2 c' hj2=> ?_)
  rcases List.mem_or_eq_of_mem_set hd with h|h
  exact hro d h
  rw [h,SD,LL]
  exact hro e (List.mem_of_getElem? he)
  rw [List.getElem?_set] at hd
  by_cases e1:i=j
  subst e1
  rw [if_pos rfl] at hd
  split at hd
  simp only [Option.some.injEq] at hd
  subst hd
  rw [SD] at hj2
  exact hin.own j2 c' hj2
  cases hd
  rw [if_neg e1] at hd
  refine tK hL (fun _=>⟨fun hu=> ?_,fun hu=> ?_⟩) (hel j d hd j2 c' hj2)
  rcases hu with ⟨hx,_⟩|⟨i',r',hx⟩
  rw [hp] at hx
  have:=List.append_cancel_left hx
  simp only [List.cons.injEq,Prod.mk.injEq] at this
  exact e1 this.1.2
  rw [hp,List.append_assoc] at hx
  have:=List.append_cancel_left hx
  simp only [List.cons_append,List.nil_append,List.cons.injEq,Prod.mk.injEq] at this
  exact e1 this.1.2
  rcases hu with ⟨hx,_⟩|⟨i',r',hx⟩
  rw [hp] at hx
  have:=List.append_cancel_left hx
  simp only [List.cons.injEq,Prod.mk.injEq] at this
  exact e1 this.1.2.symm
  have h3:=congrArg List.length hx
  simp only [List.length_append,List.length_cons,List.length_nil] at h3
  omega
theorem It (hL:k1 ≠ L):∀ (r:List (Nat×Nat)) {p0:List (Nat×Nat)} {row row':List D},uC w g k1 p0 row→p1=p0 ++ r→setAt row r q1 .hole=some row'→uC w (g.takeN k1 p1 q1 L) k1 p0 row'
 | r,p0,row,row',h,hp,hs=>by
  have hlen:=mT r row q1 .hole row' hs
  have Hg:p1.length=p0.length + r.length:=by rw [hp];simp
  refine ⟨fun j c hj=> ?_,fun j hj=>by rw [qq hL,jZ hL];exact h.cell j (by omega), ?_⟩
  cases r with
  | nil=>
   simp only [setAt] at hs
   split at hs
   rename_i hq
   simp only [Option.some.injEq] at hs
   subst hs
   rw [List.getElem?_set] at hj
   by_cases e:q1=j
   subst e
   rw [if_pos rfl,if_pos hq,Option.some.injEq] at hj
   subst hj
   exact .hole _ _
   rw [if_neg e] at hj
   rw [List.append_nil] at hp
   refine tK hL (fun _=>⟨fun hu=> ?_,fun hu=> ?_⟩) (h.own j c hj)
   rcases hu with ⟨_,hx⟩|⟨i',r',hx⟩
   exact e hx
   rw [hp] at hx
   have:=congrArg List.length hx
   simp at this
   rcases hu with ⟨_,hx⟩|⟨i',r',hx⟩
   exact e hx.symm
   rw [hp] at hx
   have:=congrArg List.length hx
   simp at this
   cases hs
  | cons y r=>
   obtain ⟨q0,i⟩:=y
   simp only [setAt] at hs
   split at hs
   rename_i sz ds hq
   split at hs
   rename_i e hd
   rw [Option.map_eq_some_iff] at hs
   obtain ⟨er,pZ,rfl⟩:=hs
   have hO:=h.own q0 _ hq
   have hin:=It hL r (hO.row hd) (by rw [hp];simp) pZ
   rw [List.getElem?_set] at hj
   by_cases e1:q0=j
   subst e1
   rw [if_pos rfl] at hj
   split at hj
   simp only [Option.some.injEq] at hj
   subst hj
   exact Md hL hp hO hd pZ hin
   cases hj
   rw [if_neg e1] at hj
   refine tK hL (fun _=>⟨fun hu=> ?_,fun hu=> ?_⟩) (h.own j c hj)
   rcases hu with ⟨hx,_⟩|⟨i',r',hx⟩
   rw [hp] at hx
   have:=congrArg List.length hx
   simp at this
   rw [hp] at hx
   have:=List.append_cancel_left hx
   simp only [List.cons.injEq,Prod.mk.injEq] at this
   exact e1 this.1.1
   have:=hu.WB
   simp only [List.length_cons] at Hg
   omega
   cases hs
   cases hs
  rw [qq hL]
  have ht:=h.tag
  rcases List.eq_nil_or_concat p0 with rfl|⟨l,x,rfl⟩
  rw [Bk] at ht ⊢
  exact Is hL ht
  obtain ⟨a,b⟩:=x
  rw [List.concat_eq_append] at *
  rw [nI] at ht ⊢
  refine tJ hL (fun _ hu=> ?_) ht
  have:=hu.WB
  simp only [List.length_append,List.length_cons,List.length_nil] at Hg
  omega
termination_by r=>r.length
end
def reC (k1:Nat) (p1:List (Nat×Nat)) (q1 L:Nat):C→C
 | .ref pl=>if pl.k=k1∧pl.p=p1∧pl.q=q1 then .ref ⟨L,[],0⟩ else .ref pl
 | .ro d=> .ro d
 | .own d=> .own d
 | .dead=> .dead
def Ym (k1:Nat) (p1:List (Nat×Nat)) (q1 L:Nat):TS→TS
 | .one (.c c)=> .one (.c (reC k1 p1 q1 L c))
 | .one (.agg cs)=> .one (.agg cs)
 | .one (.ptr pl)=> .one (.ptr pl)
 | .one (.bV ds)=> .one (.bV ds)
 | .one (.CV p)=> .one (.CV p)
 | .one (.o3 p)=> .one (.o3 p)
 | .one (.cut pl sz lo hi)=> .one (.cut pl sz lo hi)
 | .one .dead=> .one .dead
 | .lp ts=> .lp ts
 | .fn f ts=> .fn f ts
def St.takeN (st:St) (k1:Nat) (p1:List (Nat×Nat)) (q1 L:Nat):Option St:=
 match st.root k1 with
 | some r=>match st.cellAt ⟨k1,p1,q1⟩ with
  | some (.own (.sl sz ds))=>(setRow (r.row.map (C.kill fun pl=>pl.k == L)) p1 q1 (.own .hole)).map fun row'=>
   ⟨((st.fresh L ⟨false,[.own (.sl sz ds)]⟩).cq k1 ⟨r.mem,row'⟩).tmps.map (Ym k1 p1 q1 L),((st.fresh L ⟨false,[.own (.sl sz ds)]⟩).cq k1 ⟨r.mem,row'⟩).roots⟩
  | _=>none
 | none=>none
section
variable {P:Program} {w0:World} {g0:Gh} {st:St} {a:Act} {w:World} {g:Gh}
theorem Rel.named (hR:Rel w0 g0 st a w g) {k1:Nat} {p1:List (Nat×Nat)} {q1 L:Nat} (he:g.cv L [] 0=g.cv k1 p1 q1):Rel w0 g0 ⟨st.tmps.map (Ym k1 p1 q1 L),st.roots⟩ a w g:=by
 refine ⟨fun i tv hi=> ?_,by simp [hR.sz],hR.df,hR.rt,hR.ks⟩
 rw [List.getElem?_map,Option.map_eq_some_iff] at hi
 obtain ⟨t,h1,rfl⟩:=hi
 have h2:=hR.tm i t h1
 generalize a.tmps.getD i undef=u at h2
 unfold Ym
 split
 ·rename_i c
  cases h2 with
  | one _ _ h2=>
   cases h2 with
   | c _ _ h2=>
    refine .one _ _ (.c _ _ ?_)
    unfold reC
    split
    ·rename_i pl
     split
     ·rename_i hx
      obtain ⟨k,p,q⟩:=pl
      obtain ⟨rfl,rfl,rfl⟩:=hx
      have h3:u=g.cv k p q∧u.oneCell'=true:=h2
      show u=g.cv L [] 0∧u.oneCell'=true
      rw [he]
      exact h3
     ·exact h2
    all_goals exact h2
 all_goals exact h2
theorem Rel.takeN (hR:Rel w0 g0 st a w g) {k1:Nat} {p1:List (Nat×Nat)} {q1 L:Nat} {bD:St} (ht:st.takeN k1 p1 q1 L=some bD) (hne:k1 ≠ L) (hLp:L < 1000000):∃ g1,Rel w0 g0 bD a w g1:=by
 unfold St.takeN at ht
 split at ht
 rename_i r hk
 split at ht
 rename_i sz ds hq
 rw [Option.map_eq_some_iff] at ht
 obtain ⟨row',ig,rfl⟩:=ht
 have yy:cm ≠ L:=by simp only [cm];omega
 have N6:dN ≠ L:=by simp only [dN];omega
 have hO:Ow w g k1 p1 q1 (.sl sz ds):=(hR.cellAt hq).1 _ rfl
 have hcvL:(g.takeN k1 p1 q1 L).cv L [] 0=(g.takeN k1 p1 q1 L).cv k1 p1 q1:=by rw [jZ hne];simp [Gh.takeN]
 refine ⟨g.takeN k1 p1 q1 L,Rel.named ?_ hcvL⟩
 have hro:∀ b,g.o b= .ro→(g.takeN k1 p1 q1 L).o b= .ro∧w.heap[b]? = w.heap[b]? :=fun b hb=>⟨Td hb,rfl⟩
 have hA:oD w g w (g.takeN k1 p1 q1 L) (fun pl=>pl.k == L) (fun pl=>pl.k == L):=⟨hro,fun pl hp=>jZ (by simpa using hp) _ _,fun pl hp=>qq (by simpa using hp) _⟩
 have hcell:∀ k' q c,k' ≠ L→(k'=k1→¬ Un [] q p1 q1∧¬ Un p1 q1 [] q)→lE w g k' q c→lE w (g.takeN k1 p1 q1 L) k' q (c.kill fun pl=>pl.k == L):=fun k' q c h1 h2 h3=>by
  cases c with
  | ro d=>show Ro w _ d _;rw [jZ h1];exact Ro.mono hro h3
  | own d=>exact tK h1 h2 h3
  | ref pl=>
   have h4:g.cv k' [] q=g.cv pl.k pl.p pl.q∧(g.cv k' [] q).oneCell'=true:=h3
   simp only [C.kill]
   by_cases e:pl.k=L
   rw [if_pos (by simpa using e)];trivial
   rw [if_neg (by simpa using e)]
   show (g.takeN k1 p1 q1 L).cv k' [] q=(g.takeN k1 p1 q1 L).cv pl.k pl.p pl.q∧((g.takeN k1 p1 q1 L).cv k' [] q).oneCell'=true
   rw [jZ h1,jZ e]
   exact h4
  | dead=>trivial
 have Ii:∀ (q:Nat) c,row'[q]? = some c→lE w (g.takeN k1 p1 q1 L) k1 q c:=fun q c hc=>by
  have hold:∀ c,(r.row.map (C.kill fun pl=>pl.k == L))[q]? = some c→(¬ Un [] q p1 q1∧¬ Un p1 q1 [] q)→lE w (g.takeN k1 p1 q1 L) k1 q c:=fun c hc hn=>by
   rw [List.getElem?_map,Option.map_eq_some_iff] at hc
   obtain ⟨c1,h4,rfl⟩:=hc
   exact hcell k1 q c1 hne (fun _=>hn) (hR.rt.cell k1 r hk q c1 h4)
  cases p1 with
  | nil=>
   simp only [setRow] at ig
   split at ig
   rename_i SG
   simp only [Option.some.injEq] at ig
   subst ig
   rw [List.getElem?_set] at hc
   by_cases e:q1=q
   subst e
   rw [if_pos rfl,if_pos SG,Option.some.injEq] at hc
   subst hc
   exact Ow.hole _ _
   rw [if_neg e] at hc
   refine hold c hc ⟨fun hu=> ?_,fun hu=> ?_⟩
   rcases hu with ⟨_,hx⟩|⟨i,r',hx⟩
   exact e hx
   cases hx
   rcases hu with ⟨_,hx⟩|⟨i,r',hx⟩
   exact e hx.symm
   cases hx
   cases ig
  | cons y p=>
   obtain ⟨q0,i⟩:=y
   simp only [setRow] at ig
   split at ig
   rename_i sz0 ds0 Sq
   split at ig
   rename_i e0 he0
   rw [Option.map_eq_some_iff] at ig
   obtain ⟨er,pZ,rfl⟩:=ig
   rw [List.getElem?_set] at hc
   by_cases e:q0=q
   subst e
   rw [if_pos rfl] at hc
   split at hc
   simp only [Option.some.injEq] at hc
   subst hc
   rw [List.getElem?_map,Option.map_eq_some_iff] at Sq
   obtain ⟨c1,h4,h5⟩:=Sq
   have h6:c1= .own (.sl sz0 ds0):=by
    cases c1 with
    | ref pl=>simp only [C.kill] at h5;split at h5 <;> cases h5
    | own d=>exact h5
    | ro d=>cases h5
    | dead=>cases h5
   subst h6
   have hOr:Ow w g k1 [] q0 (.sl sz0 ds0):=hR.rt.cell k1 r hk q0 _ h4
   exact Md hne rfl hOr he0 pZ (It hne p (hOr.row he0) rfl pZ)
   cases hc
   rw [if_neg e] at hc
   refine hold c hc ⟨fun hu=> ?_,fun hu=> ?_⟩
   rcases hu with ⟨hx,_⟩|⟨i',r',hx⟩
   cases hx
   simp only [List.nil_append,List.cons.injEq,Prod.mk.injEq] at hx
   exact e hx.1.1
   have:=hu.WB
   simp at this
   cases ig
   cases ig
 have gk:∀ k' r',((st.fresh L ⟨false,[.own (.sl sz ds)]⟩).cq k1 ⟨r.mem,row'⟩).root k'=some r'→
   (k'=k1∧r'=⟨r.mem,row'⟩) ∨ (k'=L∧r'=⟨false,[.own (.sl sz ds)]⟩) ∨ (k' ≠ k1∧k' ≠ L∧∃ r1,st.root k'=some r1∧r'=r1.kill fun pl=>pl.k == L):=fun k' r' h=>by
  rw [St.c7] at h
  split at h
  rename_i e
  simp only [Option.some.injEq] at h
  exact .inl ⟨e,h.symm⟩
  rename_i e
  rw [St.fresh,St.c7] at h
  split at h
  rename_i e2
  simp only [Option.some.injEq] at h
  exact .inr (.inl ⟨e2,h.symm⟩)
  rename_i e2
  rw [St.jl,Option.map_eq_some_iff] at h
  obtain ⟨r1,h1,h2⟩:=h
  exact .inr (.inr ⟨e,e2,r1,h1,h2.symm⟩)
 refine hR.change hA rfl ⟨fun k' r' hk' q c hc=> ?_,fun k' r' hk' hm=> ?_⟩ ?_
 rcases gk k' r' hk' with ⟨rfl,rfl⟩|⟨rfl,rfl⟩|⟨h1,h2,r1,h3,rfl⟩
 exact Ii q c hc
 cases q with
 | succ q=>simp at hc
 | zero=>
  simp only [List.getElem?_cons_zero,Option.some.injEq] at hc
  subst hc
  refine Ow.move hO ⟨by simp [Gh.takeN],fun i r q'=>by simp [Gh.takeN],fun i r=>by simp [Gh.takeN],fun b hb=>⟨Te hb,rfl⟩,fun b i r q' hb=>⟨Tf hb,rfl⟩⟩
 simp only [Rt.kill,List.getElem?_map,Option.map_eq_some_iff] at hc
 obtain ⟨c1,h4,rfl⟩:=hc
 exact hcell k' q c1 h2 (fun e=>absurd e h1) (hR.rt.cell k' r1 h3 q c1 h4)
 have hmem:∀ k' r1,k' ≠ L→st.root k'=some r1→r1.mem=true→(g.takeN k1 p1 q1 L).o ((g.takeN k1 p1 q1 L).ad k' []).1= .box k'∧(∃ cs e,w.heap[((g.takeN k1 p1 q1 L).ad k' []).1]? = some (.cells cs e (0,0)))∧
   ∀ q,q < r1.row.length→w.cell? (bg ((g.takeN k1 p1 q1 L).ad k' []) q)=some ((g.takeN k1 p1 q1 L).cv k' [] q):=fun k' r1 h1 h2 h3=>by
  obtain ⟨m1,m2,m3⟩:=hR.rt.mem k' r1 h2 h3
  rw [qq h1]
  refine ⟨Is h1 m1,m2,fun q hq=> ?_⟩
  rw [jZ h1]
  exact m3 q hq
 rcases gk k' r' hk' with ⟨rfl,rfl⟩|⟨rfl,rfl⟩|⟨h1,h2,r1,h3,rfl⟩
 obtain ⟨m1,m2,m3⟩:=hmem k' r hne hk hm
 exact ⟨m1,m2,fun q hq=>m3 q (by rw [r8 ig,List.length_map] at hq;exact hq)⟩
 cases hm
 obtain ⟨m1,m2,m3⟩:=hmem k' r1 h2 h3 hm
 exact ⟨m1,m2,fun q hq=>m3 q (by simpa [Rt.kill] using hq)⟩
 have wG:=hR.ks
 refine ⟨wG.os,wG.tape,wG.output,wG.size,fun b hb hx=> ?_,fun b hb=> ?_,fun b hb hx=> ?_,⟨fun q=> ?_, ?_⟩,fun b hb=> ?_⟩
 obtain ⟨h1,h2⟩:=wG.block b hb hx
 refine ⟨h1, ?_⟩
 rcases hx with hx|hx <;> simp [Gh.takeN,h2,hx]
 simp [Gh.takeN,wG.fresh b hb]
 refine wG.old b hb ?_
 revert hx
 simp only [Gh.takeN]
 split
 split
 split
 simp
 split <;> simp
 split <;> simp
 split <;> simp
 exact fun h=>h
 rw [jZ yy];exact wG.uB.1 q
 rw [qq N6];exact wG.uB.2
 revert hb
 simp only [Gh.takeN]
 split
 split
 split
 simp
 split <;> simp
 split <;> simp
 rename_i k' hb0
 split
 simp
 intro hb
 simp only [Tag.box.injEq] at hb
 subst hb
 exact wG.ie b hb0
 rename_i h1 h2
 intro hb
 exact wG.ie b hb
 cases ht
 cases ht
end
section
variable {P:Program} {w0:World} {g0:Gh} {st:St} {a:Act} {w w':World} {g g':Gh}
end
end Go.Proofs.YtdliggkohdnipaaGreat.T
