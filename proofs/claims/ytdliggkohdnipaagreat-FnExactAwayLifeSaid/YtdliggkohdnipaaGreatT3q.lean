import Derived.Test.YtdliggkohdnipaaGreatT2q
import Derived.ChangeKeysEq
import Derived.Orders
import Derived.Laws.Tables
set_option linter.unusedVariables false
set_option linter.unusedSimpArgs false
namespace Go.Proofs.YtdliggkohdnipaaGreat.T
open Go
section
variable {P:Program} {w0:World} {g0:Gh} {st:St}
def zJ:Value→Value→Bool
 | .bool a, .bool b=>a == b
 | .int _ a, .int _ b=>a == b
 | .string a, .string b=>a.toList == b.toList
 | _,_=>false
def kH:List Value→List Value→Bool
 | [],[]=>true
 | x :: xs,y :: ys=>zJ x y && kH xs ys
 | _,_=>false
def kindOk (P:Program) (t:TypeId):Value→Value→Bool
 | .bool _, .bool _=>match P.underlying t with|some .bool=>true|_=>false
 | .int k _, .int k' _=>match P.underlying t with|some (.int _)=>decide (k=k')|_=>false
 | .string _, .string _=>match P.underlying t with|some .string=>true|_=>false
 | _,_=>false
def r5 (P:Program):Nat→List Field→List Value→List Value→Bool
 | _,[],[],[]=>true
 | i, f :: fs, x :: xs, y :: ys => f.name != "_" && f.offset == i && kindOk P f.type x y && r5 P (i + 1) fs xs ys
 | _,_,_,_=>false
theorem PS {t:TypeId} {x y:Value} (h:kindOk P t x y=true) (d:Nat) (w:World):(Op.equalIn (d + 1) t x y).run P w= .ok (zJ x y) w∧(isAgg t).run P w= .ok false w:=by
 unfold kindOk at h
 split at h
 split at h
 rename_i hu
 exact ⟨run_equalIn_bool' w d t _ _ hu,iy (by simp [wZ,hu]) w⟩
 cases h
 split at h
 rename_i hu
 have:=of_decide_eq_true h
 subst this
 exact ⟨run_equalIn_int w d t _ _ _ _ hu,iy (by simp [wZ,hu]) w⟩
 cases h
 split at h
 rename_i hu
 exact ⟨run_equalIn_string w d t _ _ hu,iy (by simp [wZ,hu]) w⟩
 cases h
 cases h
theorem vj (w:World) (d:Nat):∀ (fs:List Field) (i:Nat) (xs ys xs0 ys0:List Value),r5 P i fs xs ys=true→xs0.drop i=xs→ys0.drop i=ys→
  (Op.eqFields (d + 1) xs0.toArray ys0.toArray fs).run P w= .ok (kH xs ys) w
 | [],i,xs,ys,xs0,ys0,h,hx,hy=>by
  cases xs with
  | nil=>
   cases ys with
   | nil=>simp [Op.eqFields,kH]
   | cons y ys=>cases h
  | cons x xs=>cases h
 | f :: fs,i,xs,ys,xs0,ys0,h,hx,hy=>by
  cases xs with
  | nil=>cases h
  | cons x xs=>
   cases ys with
   | nil=>cases h
   | cons y ys=>
    simp only [r5,Bool.and_eq_true,bne_iff_ne,ne_eq,beq_iff_eq] at h
    obtain ⟨⟨⟨h1,h2⟩,h3⟩,h4⟩:=h
    obtain ⟨h5,h6⟩:=PS (P:=P) h3 d w
    have gx:xs0[i]? = some x:=by
     have:=congrArg (·[0]?) hx
     simpa using this
    have gy:ys0[i]? = some y:=by
     have:=congrArg (·[0]?) hy
     simpa using this
    have px:(part f.type xs0.toArray f.offset).run P w= .ok x w:=by simp [part,h6,h2,gx]
    have py:(part f.type ys0.toArray f.offset).run P w= .ok y w:=by simp [part,h6,h2,gy]
    have ih:=vj w d fs (i + 1) xs ys xs0 ys0 h4 (by rw [← List.drop_drop,hx];rfl) (by rw [← List.drop_drop,hy];rfl)
    simp only [Op.eqFields,h1,ne_eq,not_false_eq_true,if_true,Sem.run_bind,px,py,h5,Result.andThen_ok,kH]
    cases hv:zJ x y
    simp
    simpa using ih
def JU:TS→Option (List Value)
 | .one (.agg cs)=>DJ cs
 | _=>none
theorem yB {a:Act} {w:World} {g:Gh} {x:Operand} {t:TS} {us:List Value} (hR:Rel w0 g0 st a w g) (hx:T.cH 0 st x=some t) (h:JU t=some us):a.eval x= .agg us.toArray:=by
 have h1:=hR.cH hx
 unfold JU at h
 split at h
 generalize a.eval x=v at h1 ⊢
 cases h1 with
 | one _ _ h1=>
  cases h1 with
  | agg _ vs hs hvv=>
   have h2:=CE (w:=w) (g:=g) h
   have:=(h2.2 vs.toList (by simpa using hs)).1 fun j c u hj hu=>hvv j c u hj (by simpa using hu)
   rw [← this]
 cases h
section
variable {o:Oper} {x y:Operand} {ty ty':TypeId} {t1 t2:TS} {us vs:List Value}
theorem eA.eqlA (ho:o.op= .binOp .eql ty x y ty') (hx:T.cH 0 st x=some t1) (h1:JU t1=some us) (hy:T.cH 0 st y=some t2) (h2:JU t2=some vs)
  (ht:P.underlying ty=some (.struct (P.fieldsOf ty))) (hp:P.stoodInHeld ty=false) (hm:P.eqGuardType P.depth ty=false) (hf:r5 P 0 (P.fieldsOf ty).toList us vs=true):eA P w0 g0 o st (B (kH us vs)):=
 fun a w g hR=>⟨.bool (kH us vs),fun w' _=>by
  have hrun:=(run_equalIn_struct (P:=P) w' 9999 ty us.toArray vs.toArray ht hp).trans (vj (P:=P) w' 9998 _ 0 us vs us vs hf rfl rfl)
  simp [execOp,ho,yB hR hx h1,yB hR hy h2,run_eqGuard_agg,hm,run_eql_struct,hrun],Aj rfl⟩
theorem eA.neqA (ho:o.op= .binOp .neq ty x y ty') (hx:T.cH 0 st x=some t1) (h1:JU t1=some us) (hy:T.cH 0 st y=some t2) (h2:JU t2=some vs)
  (ht:P.underlying ty=some (.struct (P.fieldsOf ty))) (hp:P.stoodInHeld ty=false) (hm:P.eqGuardType P.depth ty=false) (hf:r5 P 0 (P.fieldsOf ty).toList us vs=true):eA P w0 g0 o st (B !(kH us vs)):=
 fun a w g hR=>⟨.bool !(kH us vs),fun w' _=>by
  have hrun:=(run_equalIn_struct (P:=P) w' 9999 ty us.toArray vs.toArray ht hp).trans (vj (P:=P) w' 9998 _ 0 us vs us vs hf rfl rfl)
  simp [execOp,ho,yB hR hx h1,yB hR hy h2,run_eqGuard_agg,hm,run_neq_struct,hrun],Aj rfl⟩
end
theorem TQ.guardE {ops:Array Oper} {o:Oper} {rest:List Oper} {bJ:St} {Q:St→Prop} {t:TS} {j:Nat} {want b:Bool} (hg:o.guard=some (j,want)) (hb:guardOf ops st j=some (V (.bool b)))
  (he:b=want) (h:eA P w0 g0 o st t) (hp:st.put o.dst t=bJ) (hq:TQ P w0 g0 ops rest bJ Q):TQ P w0 g0 ops (o :: rest) st Q:=TQ.n6 hg hb he h (hp ▸ hq)
def yes (ops:Array Oper) (st:St) (o:Oper):Prop:=o.guard=none ∨ ∃ j want b,o.guard=some (j,want)∧guardOf ops st j=some (V (.bool b))∧b=want
theorem tT {ops:Array Oper} {o:Oper} {a:Act} {w:World} {g:Gh} (h:yes ops st o) (hR:Rel w0 g0 st a w g):Region.wanted o (yielded ops a.tmps)=true:=by
 rcases h with h|⟨j,want,b,h1,h2,h3⟩
 simp [Region.wanted,h]
 simp [Region.wanted,h1,Ak hR h2,h3]
theorem U1 {ops:Array Oper} {o:Oper} (h:o.guard=none):yes ops st o:= .inl h
theorem Nw {ops:Array Oper} {o:Oper} {j:Nat} {want b:Bool} (hg:o.guard=some (j,want)) (hb:guardOf ops st j=some (V (.bool b))) (he:b=want):yes ops st o:= .inr ⟨j,want,b,hg,hb,he⟩
theorem mq {a:Act} {w:World} {g:Gh} {o:Oper} {f:FuncId} {cx:Operand} {args:List Operand} {qA:Array TypeId} {fn:Func} (hR:Rel w0 g0 st a w g)
  (ho:o.op= .call { callee:= .value cx,args:=args.toArray,argTypes:=qA }) (m9:T.cH 0 st cx=some (.fn f [])) (hf:P.funcs[f]? = some fn) (hb:fn.body.isNone=false)
  (hn : (fn.name == "runtime.NumGoroutine") = false) (w' : World) : (execOp a.eval o).run P w' = .ok (.enter f (args.map a.eval).toArray) w' := by
 have he:a.eval cx= .func (.func f) #[] #[]:=by
  have h1:=hR.cH m9
  generalize a.eval cx=v at h1
  cases h1 with
  | fn _ _ us hs h=>
   have:us= #[]:=Array.eq_empty_of_size_eq_zero (by simpa using hs)
   rw [this]
 have hn' : ¬ fn.name = "runtime.NumGoroutine" := by simpa using hn
 have hb':¬ fn.body=none:=fun e=>by rw [e] at hb;cases hb
 simp [execOp,ho,resolve,he,Deferred.ofValue,invoke,callFunc,hf,hn',hb']
theorem TQ.U2 {ops:Array Oper} {o:Oper} {rest:List Oper} {bJ:St} {Q:St→Prop} (hg:yes ops st o) {f:FuncId} {cx:Operand} {args:List Operand} {qA:Array TypeId} {fn:Func}
  (ho:o.op= .call { callee:= .value cx,args:=args.toArray,argTypes:=qA }) (m9:T.cH 0 st cx=some (.fn f [])) (hf:P.funcs[f]? = some fn) (hb:fn.body.isNone=false)
  (hn : (fn.name == "runtime.NumGoroutine") = false) {ts ts' : List TS} (hx : kV st args = some ts) {t : TS} {x : Value} (hc : Ao P w0 g0 f ts' (RP t)) (hs : uz st ts ts') (hp : qw t = some x)
  (Nx:st.put o.dst t=bJ) (hq:TQ P w0 g0 ops rest bJ Q):TQ P w0 g0 ops (o :: rest) st Q:=fun a w g hR Q' hQ=>by
 refine wpQuiet_step fun K hK=> ?_
 rw [if_pos (tT hg hR)]
 refine ⟨x,fun w' Eh=> ?_,hK _ (hq _ _ _ (Nx ▸ hR.put ((iO hp).2 rfl) o.dst) Q' hQ)⟩
 have iU:=hR.later Eh
 have h1:=iU.kV hx
 have h2:=hs.get
 have kX:=hc w' iU.ks.kept { g with o:=jn w' } (args.map a.eval).toArray 0 rfl (by simp [h1.1,h2.1]) (fun i t' u hi hu=>by
  obtain ⟨t,h3,h4⟩:=h2.2 i t' hi
  exact iU.tS h4 (h1.2 i t u h3 (by simpa using hu)) _ rfl)
 unfold Oper.quietAt
 rw [mq hR ho m9 hf hb hn w']
 refine ⟨rfl,kX.mono fun e w'' ⟨v,r,g',he,XK,hG⟩=> ?_⟩
 have h5:=hG.val
 rw [XK] at h5
 have h6:=(iO hp).1 h5
 subst h6
 exact ⟨he,Eh.trans ⟨hG.os,hG.tape,hG.output,hG.size,hG.block⟩⟩
inductive FY (st:St):C→C→Prop
 | ro (d:D):FY st (.ro d) (.ro d)
 | ref {pl:Pl} {d:D} (h:st.cellAt pl=some (.own d)) (hw:Whole d):FY st (.ref pl) (.ro d)
inductive xf (st:St):List C→List C→Prop
 | nil:xf st [] []
 | cons {c c':C} {l l':List C} (h:FY st c c') (hl:xf st l l'):xf st (c :: l) (c' :: l')
theorem xf.get {cs cs':List C} (h:xf st cs cs'):cs'.length=cs.length∧∀ (j:Nat) c c',cs[j]? = some c→cs'[j]? = some c'→FY st c c':=by
 induction h with
 | nil=>exact ⟨rfl,fun j c c' h1=>by simp at h1⟩
 | cons h hl ih=>
  refine ⟨by simp [ih.1],fun j c c' h1 h2=> ?_⟩
  cases j with
  | zero=>
   simp only [List.getElem?_cons_zero,Option.some.injEq] at h1 h2
   subst h1;subst h2
   exact h
  | succ j=>exact ih.2 j c c' (by simpa using h1) (by simpa using h2)
theorem zo.aggR {cs cs':List C} (h:xf st cs cs'):zo st (.one (.agg cs)) (.one (.agg cs')):=
 .agg cs cs' h.get.1 fun j c c' h1 h2=>by
  cases h.get.2 j c c' h1 h2 with
  | ro d=>exact .inl ⟨d,rfl,rfl⟩
  | ref h hw=>exact .inr ⟨_,_,rfl,rfl,h,hw⟩
inductive RD where
 | c (d:D)
 | a (ds:List D)
def zw:D→Bool
 | .sl _ _=>true
 | _=>false
def X8 (k j:Nat):D→C
 | .sl _ _=> .ref ⟨k,[],j⟩
 | d=> .ro d
def xg (j:Nat):D→Nat
 | .sl _ _=>j + 1
 | _=>j
def we (k:Nat):Nat→List D→List C
 | _,[]=>[]
 | j,d :: l=>X8 k j d :: we k (xg j d) l
def Ar:Nat→List D→Nat
 | j,[]=>j
 | j,d :: l=>Ar (xg j d) l
def s9 (k:Nat):Nat→List RD→List TV
 | _,[]=>[]
 | j, .c d :: l=> .c (X8 k j d) :: s9 k (xg j d) l
 | j, .a ds :: l=> .agg (we k j ds) :: s9 k (Ar j ds) l
def fh:List RD→List D
 | []=>[]
 | .c d :: l=>d :: fh l
 | .a ds :: l=>ds ++ fh l
def c7 (l:List RD):nQ:=⟨(fh l).filter zw,fun k=>oO (s9 k 0 l)⟩
abbrev RG (l:List RD):nQ→Prop:=fun r=>r=c7 l
def Uq:D→Bool
 | .v _=>true
 | .sl _ _=>true
 | _=>false
theorem Ny {k j n:Nat} {d:D} (h:Uq d=true) (hj:xg j d ≤ n):XM k n (X8 k j d)=true:=by
 cases d with
 | v x=>rfl
 | sl sz ds=>
  simp only [xg] at hj
  simp [X8,XM]
  omega
 | _=>cases h
theorem Nz (j:Nat) (d:D):xg j d=j + ([d].filter zw).length:=by cases d <;> rfl
theorem CF:∀ (l:List D) (j:Nat),Ar j l=j + (l.filter zw).length
 | [],j=>rfl
 | d :: l,j=>by
  rw [Ar,CF l,Nz,show d :: l=[d] ++ l from rfl,List.filter_append,List.length_append]
  omega
theorem JV {k n:Nat}:∀ (l:List D) (j:Nat),l.all Uq=true→Ar j l ≤ n→(we k j l).all (XM k n)=true
 | [],j,_,_=>rfl
 | d :: l,j,h,hj=>by
  simp only [List.all_cons,Bool.and_eq_true] at h
  have h1:xg j d ≤ n:=by
   have:=CF l (xg j d)
   simp only [Ar] at hj
   omega
  simp only [we,List.all_cons,Ny h.1 h1,JV l _ h.2 hj,Bool.and_self]
theorem CG {k n:Nat}:∀ (l:List RD) (j:Nat),(fh l).all Uq=true→j + ((fh l).filter zw).length ≤ n→(s9 k j l).all (Z7 k n)=true
 | [],j,_,_=>rfl
 | .c d :: l,j,h,hj=>by
  simp only [fh,List.all_cons,Bool.and_eq_true] at h
  rw [fh,show d :: fh l=[d] ++ fh l from rfl,List.filter_append,List.length_append] at hj
  have h0:=Nz j d
  have g1:=Ny (k:=k) h.1 (show xg j d ≤ n by omega)
  have g2:=CG (k:=k) (n:=n) l (xg j d) h.2 (by omega)
  simp only [s9,List.all_cons,Z7,g1,g2,Bool.and_self]
 | .a ds :: l,j,h,hj=>by
  simp only [fh,List.all_append,Bool.and_eq_true] at h
  rw [fh,List.filter_append,List.length_append] at hj
  have h0:=CF ds j
  have g1:=JV (k:=k) (n:=n) ds j h.1 (by omega)
  have g2:=CG (k:=k) (n:=n) l (Ar j ds) h.2 (by omega)
  simp only [s9,List.all_cons,Z7,g1,g2,Bool.and_self]
theorem uD {k:Nat} {l:List RD} (h:(fh l).all Uq=true):X0 k (c7 l).row.length ((c7 l).val k)=true:=by
 have h1:=CG (k:=k) (n:=(c7 l).row.length) l 0 h (by simp [c7])
 simp only [c7] at h1 ⊢
 unfold oO
 split
 rename_i heq
 rw [heq] at h1
 simpa [X0] using h1
 exact h1
theorem uE {α:Type} {d: α→D} (sz:Nat) (xs:List α) (h:∀ x,∀ c ∈ (d x).row,Whole c):Whole (.sl sz (xs.map d)):= .sl _ _ fun e he c hc=>by
 obtain ⟨x,_,rfl⟩:=List.mem_map.1 he
 exact h x c hc
end
theorem hJ.refl (w:World):hJ w w:=⟨rfl,rfl,rfl,Nat.le_refl _,fun _ _=>rfl⟩
def DK (P:Program) (o:Oper) (a:Act) (w:World) (next:Act→World→Prop):Result Next→Prop
 | .ok (.value v) w'=>hJ w w'∧next (a.put o.dst v) w'
 | .ok .skip w'=>hJ w w'∧next (a.put o.dst undef) w'
 | .ok (.enter f args) w'=>hJ w w'∧Calls P f args w' fun e w''=>∃ v,e= .returned v∧hJ w w''∧next (a.put o.dst v) w''
 | _=>False
def FZ (P:Program) (ops:Array Oper) (i:Nat) (K:Act→World→Prop) (a:Act) (w:World):Prop:=
 match ops[i]? with
 | none=>K a w
 | some o=>if Region.wanted o (yielded ops a.tmps) then DK P o a w K ((execOp a.eval o).run P w) else K (a.put o.dst undef) w
section
variable {P:Program} {ops:Array Oper} {md:Region.Mode} {Q:Exit→Act→World→Prop}
theorem PT {o:Oper} {a:Act} {w:World} {K K':Act→World→Prop} (h:∀ a w,K a w→K' a w):∀ {r:Result Next},DK P o a w K r→DK P o a w K' r
 | .ok (.value v) w',hh=>⟨hh.1,h _ _ hh.2⟩
 | .ok .skip w',hh=>⟨hh.1,h _ _ hh.2⟩
 | .ok (.enter f args) w',hh=>⟨hh.1,hh.2.mono fun e w'' ⟨v,h1,h2,h3⟩=>⟨v,h1,h2,h _ _ h3⟩⟩
 | .ok (.defer d) w',hh=>hh.elim
 | .ok (.row r args) w',hh=>hh.elim
 | .halt x w',hh=>hh.elim
theorem mOp_wp {i:Nat} {a:Act} {w:World} {K K':Act→World→Prop} (h:∀ a w,K a w→K' a w) (hh:FZ P ops i K a w):wpOp P ops Q i K' a w:=by
 unfold FZ at hh
 unfold wpOp
 split
 ·rename_i ho;simp only [ho] at hh;exact h _ _ hh
 ·rename_i o ho
  simp only [ho] at hh
  split
  ·rename_i hw
   simp only [hw,if_true] at hh
   refine .inl ?_
   unfold Oper.wp
   generalize (execOp a.eval o).run P w=r at *
   cases r with
   | ok n w'=>
    cases n <;> simp only [DK] at hh <;> simp only [Oper.upon]
    case value v=>exact h _ _ hh.2
    case skip=>exact h _ _ hh.2
    case enter f args=>
     exact hh.2.mono fun e w'' ⟨v,h1,h2,h3⟩=>by subst h1;exact h _ _ h3
   | halt x w'=>exact hh.elim
  ·rename_i hw;simp only [hw] at hh;exact h _ _ hh
def YV (P:Program) (ops:Array Oper) (o:Oper) (v:Value) (a:Act) (w:World):Prop:=
 (Region.wanted o (yielded ops a.tmps)=true∧∀ w',hJ w w'→(execOp a.eval o).run P w'= .ok (.value v) w') ∨ (Region.wanted o (yielded ops a.tmps)=false∧v=undef)
theorem YV.later {o:Oper} {v:Value} {a:Act} {w w':World} (h:YV P ops o v a w) (hw:hJ w w'):YV P ops o v a w':=by
 rcases h with ⟨h1,h2⟩|h
 exact .inl ⟨h1,fun w'' h3=>h2 w'' (hw.trans h3)⟩
 exact .inr h
theorem YV.FZ {i:Nat} {o:Oper} {v:Value} {a:Act} {w:World} (hi:ops[i]? = some o) (hy:YV P ops o v a w) {K:Act→World→Prop} (h:K (a.put o.dst v) w):FZ P ops i K a w:=by
 unfold T.FZ
 simp only [hi]
 rcases hy with ⟨hw,hv⟩|⟨hw,rfl⟩
 simp only [hw,if_true,hv w (hJ.refl w)]
 exact ⟨hJ.refl w,h⟩
 simp only [hw,Bool.false_eq_true,if_false];exact h
theorem X9 {j:Nat} {oi oj:Oper} {v:Value} (hj:ops[j]? = some oj) (hap:oi.apart ops oj=true) (hsi:∀ cs b,oi.op ≠ .select cs b) (hsj:∀ cs b,oj.op ≠ .select cs b)
  {K:Act→World→Prop} {a:Act} {w:World} (hy:YV P ops oi v a w) (h:FZ P ops j K (a.put oi.dst v) w):FZ P ops j (fun a' w'=>YV P ops oi v a' w'∧K (a'.put oi.dst v) w') a w:=by
 obtain ⟨h1,h2,h3⟩:=Oper.apart_spec hap
 have keep:∀ u w',hJ w w'→YV P ops oi v (a.put oj.dst u) w':=fun u w' Eh=>by
  have:=hy.later Eh
  unfold YV at *
  rw [execOp_put oi hsi a oj.dst u h3,wanted_put oi a oj.dst u h3]
  exact this
 unfold FZ at *
 simp only [hj] at *
 rw [wanted_put oj a oi.dst v h1] at h
 split
 ·rename_i hw
  simp only [hw,if_true] at h
  rw [execOp_put oj hsj a oi.dst v h1] at h
  generalize (execOp a.eval oj).run P w=r at *
  cases r with
  | ok n w'=>
   cases n <;> simp only [DK] at h ⊢
   case value u=>exact ⟨h.1,keep u _ h.1,by rw [← Act.put_comm a v u h2];exact h.2⟩
   case skip=>exact ⟨h.1,keep _ _ h.1,by rw [← Act.put_comm a v undef h2];exact h.2⟩
   case enter f args=>exact ⟨h.1,h.2.mono fun e w'' ⟨u,e1,e2,e3⟩=>⟨u,e1,e2,keep u _ e2,by rw [← Act.put_comm a v u h2];exact e3⟩⟩
  | halt x w'=>exact h.elim
 ·rename_i hw
  simp only [hw] at h
  exact ⟨keep _ _ (hJ.refl w),by rw [← Act.put_comm a v undef h2];exact h⟩
theorem NA {i:Nat} {a:Act} {w:World} {K K':Act→World→Prop} (h:∀ a w,K a w→K' a w) (hh:FZ P ops i K a w):FZ P ops i K' a w:=by
 unfold FZ at *
 split
 exact h _ _ (by simpa [*] using hh)
 rename_i o ho
 simp only [ho] at hh
 split
 rename_i hw;simp only [hw,if_true] at hh;exact PT h hh
 rename_i hw;simp only [hw] at hh;exact h _ _ hh
end
section
variable {P:Program} {w0:World} {g0:Gh} {st:St}
theorem rz {ops:Array Oper} {i:Nat} {o:Oper} {tl:List Oper} (h:ops.toList.drop i=o :: tl):ops[i]? = some o:=by
 have:=congrArg (·[0]?) h
 simpa using this
def s3 (P:Program) (w0:World) (g0:Gh) (o:Oper) (st:St) (Q:St→Prop):Prop:=
 ∀ a w g,Rel w0 g0 st a w g→∀ K:Act→World→Prop,(∀ bJ a' w' g',Q bJ→Rel w0 g0 bJ a' w' g'→K a' w')→DK P o a w K ((execOp a.eval o).run P w)
theorem FV.later {w w':World} {k:Nat} {r:nQ} {v:Value} {g':Gh} (h:FV w k r v w' g'):hJ w w':=⟨h.os,h.tape,h.output,h.size,h.block⟩
theorem s3.call {o:Oper} {Q:St→Prop} {f:FuncId} {cx:Operand} {args:List Operand} {qA:Array TypeId} {fn:Func} (ho:o.op= .call { callee:= .value cx,args:=args.toArray,argTypes:=qA })
  (m9:T.cH 0 st cx=some (.fn f [])) (hf:P.funcs[f]? = some fn) (hb:fn.body.isNone=false)
  (hn : (fn.name == "runtime.NumGoroutine") = false) {k : Nat} (hd : o.dst = some k) {ts ts' : List TS} (hx : kV st args = some ts) (hs : uz st ts ts') {R : nQ → Prop} (hc : Ao P w0 g0 f ts' R)
  (hok:∀ r,R r→X0 k r.row.length (r.val k)=true) (hq:∀ r,R r→Q ((st.called k r).put (some k) (r.val k))) (hkp:k < 1000000:=by decide):s3 P w0 g0 o st Q:=fun a w g hR K hK=>by
 have h1:=hR.kV hx
 have h2:=hs.get
 have kX:=hc w hR.ks.kept { g with o:=jn w } (args.map a.eval).toArray k rfl (by simp [h1.1,h2.1]) (fun i t' u hi hu=>by
  obtain ⟨t,h3,h4⟩:=h2.2 i t' hi
  exact hR.tS h4 (h1.2 i t u h3 (by simpa using hu)) _ rfl)
 rw [mq hR ho m9 hf hb hn w]
 refine ⟨hJ.refl w,kX.mono fun e w' ⟨v,r,g',he,hr,hG⟩=> ?_⟩
 obtain ⟨g2,DG,hv2⟩:=hR.called hkp hG (hok r hr)
 refine ⟨v,he,hG.later,hK _ _ _ g2 (hq r hr) ?_⟩
 rw [hd]
 exact DG.put hv2 (some k)
theorem s3.bu {o:Oper} {Q:St→Prop} {f:FuncId} {cx:Operand} {args:List Operand} {qA:Array TypeId} {fn:Func} (ho:o.op= .call { callee:= .value cx,args:=args.toArray,argTypes:=qA })
  (m9:T.cH 0 st cx=some (.fn f [])) (hf:P.funcs[f]? = some fn)
  (hb : fn.body.isNone = false) (hn : (fn.name == "runtime.NumGoroutine") = false) {k : Nat} (hd : o.dst = some k) {ts ts' : List TS} (hx : kV st args = some ts) {sz : Nat} {ds : List D} (hc : Ao P w0 g0 f ts' (RL sz ds))
  (hs:uz st ts ts') (hq:Q ((st.fresh k ⟨false,[.own (.sl sz ds)]⟩).put (some k) (.one (.c (.ref ⟨k,[],0⟩))))) (hkp:k < 1000000:=by decide):s3 P w0 g0 o st Q:=
 s3.call ho m9 hf hb hn hd hx hs hc (fun r hr=>by subst hr;simp [X0,Z7,XM]) (fun r hr=>by subst hr;exact hq) hkp
theorem s3.an {o:Oper} {Q:St→Prop} {f:FuncId} {cx:Operand} {args:List Operand} {qA:Array TypeId} {fn:Func} (ho:o.op= .call { callee:= .value cx,args:=args.toArray,argTypes:=qA })
  (m9:T.cH 0 st cx=some (.fn f [])) (hf:P.funcs[f]? = some fn)
  (hb : fn.body.isNone = false) (hn : (fn.name == "runtime.NumGoroutine") = false) {k : Nat} (hd : o.dst = some k) {ts ts' : List TS} (hx : kV st args = some ts) {l : List RD} (hc : Ao P w0 g0 f ts' (RG l))
  (hs:uz st ts ts') (hok:(fh l).all Uq=true) (hq:Q ((st.fresh k ⟨false,((fh l).filter zw).map C.own⟩).put (some k) (oO (s9 k 0 l)))) (hkp:k < 1000000:=by decide):s3 P w0 g0 o st Q:=
 s3.call ho m9 hf hb hn hd hx hs hc (fun r hr=>by subst hr;exact uD hok) (fun r hr=>by subst hr;exact hq) hkp
end
abbrev U:TS:= .mj []
section
variable {P:Program} {w0:World} {g0:Gh} {st:St}
theorem X_ {w:World} {g:Gh}:dN w g U undef:= .mj [] #[] rfl (fun j t u h _=>by simp at h)
theorem U_inv {w:World} {g:Gh} {u:Value} (h:dN w g U u):u=undef:=by
 cases h with
 | mj _ us hs _=>
  have:us= #[]:=Array.eq_empty_of_size_eq_zero (by simpa using hs)
  rw [this]
  rfl
theorem Ls {ops:Array Oper} {a:Act} {w:World} {g:Gh} (hR:Rel w0 g0 st a w g) {j:Nat} (h:guardOf ops st j=some U):yielded ops a.tmps j=none:=by
 unfold guardOf at h
 unfold yielded
 cases hd:(ops[j]?).bind (·.dst) with
 | none=>rw [hd] at h;cases h
 | some d=>
  rw [hd] at h
  simp only [Option.bind_some] at h ⊢
  have h1:=U_inv (hR.tm d _ h)
  rw [Array.getD_eq_getD_getElem?] at h1
  cases h2:a.tmps[d]? with
  | none=>rfl
  | some v=>
   rw [h2] at h1
   simp only [Option.getD_some] at h1
   subst h1
   rfl
def NB (ops:Array Oper) (st:St) (o:Oper):Prop:=∃ j want,o.guard=some (j,want)∧(guardOf ops st j=some U ∨ ∃ b,guardOf ops st j=some (V (.bool b))∧b= !want)
theorem U3 {ops:Array Oper} {o:Oper} {j:Nat} {want b:Bool} (hg:o.guard=some (j,want)) (hb:guardOf ops st j=some (V (.bool b))) (he:b= !want):NB ops st o:=⟨j,want,hg, .inr ⟨b,hb,he⟩⟩
theorem nope_u {ops:Array Oper} {o:Oper} {j:Nat} {want:Bool} (hg:o.guard=some (j,want)) (hb:guardOf ops st j=some U):NB ops st o:=⟨j,want,hg, .inl hb⟩
theorem Ff {ops:Array Oper} {o:Oper} {a:Act} {w:World} {g:Gh} (h:NB ops st o) (hR:Rel w0 g0 st a w g):Region.wanted o (yielded ops a.tmps)=false:=by
 obtain ⟨j,want,hg,h|⟨b,hb,he⟩⟩:=h
 simp [Region.wanted,hg,Ls hR h]
 simp [Region.wanted,hg,Ak hR hb,he]
theorem TL.skip {ops:Array Oper} {o:Oper} {rest:List Oper} {bJ:St} {Q:St→Prop} (hn:NB ops st o) (hp:st.put o.dst U=bJ) (h:TL P w0 g0 ops rest bJ Q):TL P w0 g0 ops (o :: rest) st Q:=
 fun a w g hR Q' hQ=>wpList_step fun K hK=>by
  rw [if_neg (by simp [Ff hn hR])]
  exact hK _ _ (h _ _ _ (hp ▸ hR.put X_ o.dst) Q' hQ)
theorem TQ.skip {ops:Array Oper} {o:Oper} {rest:List Oper} {bJ:St} {Q:St→Prop} (hn:NB ops st o) (hp:st.put o.dst U=bJ) (h:TQ P w0 g0 ops rest bJ Q):TQ P w0 g0 ops (o :: rest) st Q:=
 fun a w g hR Q' hQ=>by
  refine wpQuiet_step fun K hK=> ?_
  rw [if_neg (by simp [Ff hn hR])]
  exact hK _ (h _ _ _ (hp ▸ hR.put X_ o.dst) Q' hQ)
def RC (w:World) (g:Gh) (cs:List C) (us:List Value):Prop:=us.length=cs.length∧∀ (j:Nat) c u,cs[j]? = some c→us[j]? = some u→gC w g c u
theorem RC.append {w:World} {g:Gh} {a b:List C} {x y:List Value} (h:RC w g a x) (h':RC w g b y):RC w g (a ++ b) (x ++ y):=by
 refine ⟨by simp [h.1,h'.1],fun j c u hc hu=> ?_⟩
 rcases Nat.lt_or_ge j a.length with hj|hj
 rw [List.getElem?_append_left hj] at hc
 rw [List.getElem?_append_left (by rw [h.1];exact hj)] at hu
 exact h.2 j c u hc hu
 rw [List.getElem?_append_right hj] at hc
 rw [List.getElem?_append_right (by rw [h.1];exact hj),h.1] at hu
 exact h'.2 _ c u hc hu
theorem RC.take {w:World} {g:Gh} {a:List C} {x:List Value} (n:Nat) (h:RC w g a x):RC w g (a.take n) (x.take n):=by
 refine ⟨by simp [h.1],fun j c u hc hu=> ?_⟩
 rw [List.getElem?_take] at hc hu
 split at hc
 rename_i hj
 rw [if_pos hj] at hu
 exact h.2 j c u hc hu
 cases hc
theorem RC.drop {w:World} {g:Gh} {a:List C} {x:List Value} (n:Nat) (h:RC w g a x):RC w g (a.drop n) (x.drop n):=by
 refine ⟨by simp [h.1],fun j c u hc hu=> ?_⟩
 rw [List.getElem?_drop] at hc hu
 exact h.2 _ c u hc hu
theorem NC (off:Nat):∀ (l:List Value) (k:Nat) (cs:Array Value),off + k + l.length ≤ cs.size→
  ((l.zipIdx k).foldl (fun cs (p:Value×Nat)=>cs.setIfInBounds (off + p.2) p.1) cs).toList=cs.toList.take (off + k) ++ l ++ cs.toList.drop (off + k + l.length)
 | [],k,cs,h=>by simp
 | v :: l,k,cs,h=>by
  simp only [List.length_cons] at h
  have ih:=NC off l (k + 1) (cs.setIfInBounds (off + k) v) (by simp;omega)
  rw [List.zipIdx_cons,List.foldl_cons,ih]
  simp only [Array.toList_setIfInBounds,List.length_cons]
  have h1:off + (k + 1)=off + k + 1:=by omega
  rw [h1,List.take_add_one,List.take_set_of_le (by omega),List.getElem?_set_self (by simp;omega),List.drop_set_of_lt (by omega)]
  simp only [Option.toList_some,List.append_assoc,List.singleton_append,List.cons_append,List.nil_append]
  rw [show off + k + 1 + l.length=off + k + (l.length + 1) by omega]
def JX (st:St) (x:Operand):Option (List C):=
 match T.cH 1 st x with
 | some (.one (.c .dead))=>none
 | some (.one (.c c))=>some [c]
 | some (.one (.agg cs))=>some cs
 | _=>none
def tU (st:St):List (Nat×Operand)→Option (List (Nat×List C))
 | []=>some []
 | (i,x) :: l=>match JX st x,tU st l with|some c,some r=>some ((i,c) :: r)|_,_=>none
def DL (place:List (Nat×Nat)) (cs:List C):List (Nat×List C)→Option (List C)
 | []=>some cs
 | (i,l) :: rest=>
  match place[i]? with
  | none=>none
  | some (off,size)=>if Nat.beq l.length size && Nat.ble (off + l.length) cs.length then DL place (cs.take off ++ l ++ cs.drop (off + l.length)) rest else none
theorem Tb {a:Act} {w:World} {g:Gh} (hR:Rel w0 g0 st a w g) {x:Operand} {cs:List C} (h:JX st x=some cs):RC w g cs (a.eval x).cells.toList:=by
 unfold JX at h
 split at h
 cases h
 rename_i c hne hx
 simp only [Option.some.injEq] at h
 subst h
 have h1:=hR.cH hx
 cases h1 with
 | one _ _ h1=>
  cases h1 with
  | c _ _ h1=>
   rw [ux (h1.one (fun e=>by subst e;first|exact hne rfl|exact hne _ hx|exact hne))]
   refine ⟨rfl,fun j c u hc hu=> ?_⟩
   cases j with
   | zero=>simp only [List.getElem?_cons_zero,Option.some.injEq] at hc hu;subst hc;subst hu;exact h1
   | succ j=>simp at hc
 rename_i cs' hx
 simp only [Option.some.injEq] at h
 subst h
 have h1:=hR.cH hx
 generalize a.eval x=v at h1
 cases h1 with
 | one _ _ h1=>
  cases h1 with
  | agg _ us hs hv=>exact ⟨by simpa [Value.cells] using hs,fun j c u hc hu=>hv j c u hc (by simpa [Value.cells] using hu)⟩
 cases h
theorem CH {a:Act} {w:World} {g:Gh} (hR:Rel w0 g0 st a w g) {place:List (Nat×Nat)}:∀ {l:List (Nat×Operand)} {pc:List (Nat×List C)} {cs cs':List C} {us:Array Value},tU st l=some pc→
  DL place cs pc=some cs'→RC w g cs us.toList→∃ us':Array Value,Instr.fill (place.toArray[·]?) us (l.map fun p=>(p.1,a.eval p.2))=some us'∧RC w g cs' us'.toList
 | [],pc,cs,cs',us,h1,h2,h3=>by
  simp only [tU,Option.some.injEq] at h1
  subst h1
  simp only [DL,Option.some.injEq] at h2
  subst h2
  exact ⟨us,rfl,h3⟩
 | (i,x) :: l,pc,cs,cs',us,h1,h2,h3=>by
  simp only [tU] at h1
  split at h1
  rename_i c r hc hr
  simp only [Option.some.injEq] at h1
  subst h1
  simp only [DL] at h2
  split at h2
  cases h2
  rename_i off size hp
  split at h2
  rename_i hb
  simp only [Bool.and_eq_true] at hb
  have hb1:=Nat.eq_of_beq_eq_true hb.1
  have iz:=Nat.le_of_ble_eq_true hb.2
  have hx:=Tb hR hc
  have hxl:(a.eval x).cells.size=c.length:=by simpa using hx.1
  have Rp:us.size=cs.length:=by simpa using h3.1
  have U4:=NC off (a.eval x).cells.toList 0 us (by simp;omega)
  simp only [Nat.add_zero] at U4
  have hl:(a.eval x).cells.toList.length=c.length:=hx.1
  rw [hl] at U4
  obtain ⟨us',e1,e2⟩:=CH hR hr h2 (us:=(((a.eval x).cells.toList.zipIdx).foldl (fun cs (p:Value×Nat)=>cs.setIfInBounds (off + p.2) p.1) us)) (by
   rw [U4]
   exact ((h3.take off).append hx).append (h3.drop _))
  refine ⟨us', ?_,e2⟩
  rw [← e1]
  have I0:place.toArray[i]? = some (off,size):=by simpa using hp
  simp only [List.map_cons,Instr.fill,I0]
  rw [if_neg (by simp;omega)]
  congr 1
  rw [← Array.foldl_toList,Array.toList_zipIdx]
  cases h2
  cases h1
theorem eA.build {o:Oper} {t:TypeId} {parts:List (Nat×Operand)} (ho:o.op= .build t parts.toArray) {pc:List (Nat×List C)} (hp:tU st parts=some pc) {fs:Array Field} (hu:P.underlying t=some (.struct fs))
  {it:TypeInfo} (hi:P.info? t=some it) {z:Value} (hz:it.zero=some z) {row:List D} (hrow:zH P 6 t=some row) (hv:z.cells.toList=row.map zeroV) (hok:row.all tR=true)
  {place:List (Nat×Nat)} (oQ:fs.toList.mapM (fun f=>(P.info? f.type).map fun i=>(f.offset,i.size))=some place) {cs:List C} (hf:DL place (row.map C.ro) pc=some cs):eA P w0 g0 o st (.one (.agg cs)):=
 fun a w g hR=>by
  have hz0:RC w g (row.map C.ro) z.cells.toList:=by
   refine ⟨by rw [hv];simp,fun j c u hc hu=> ?_⟩
   rw [hv] at hu
   rw [List.getElem?_map,Option.map_eq_some_iff] at hc hu
   obtain ⟨d,hd,rfl⟩:=hc
   obtain ⟨d',ru,rfl⟩:=hu
   rw [hd] at ru
   cases ru
   have hk:=List.all_eq_true.1 hok d (List.mem_of_getElem? hd)
   cases d with
   | v x=>exact Ro.v x hk
   | sl sz ds=>
    cases ds with
    | nil=>exact Ro.nil sz none 0
    | cons _ _=>cases hk
   | _=>cases hk
  obtain ⟨us,e1,e2⟩:=CH hR hp hf hz0
  refine ⟨.agg us,fun w' _=> ?_, .one _ _ (.agg _ us (by simpa using e2.1) fun j c u hc hu=>e2.2 j c u hc (by simpa using hu))⟩
  have hb:P.built t (parts.map fun p=>(p.1,a.eval p.2))=some us:=by
   unfold Program.built
   simp only [hi,hu,hz,oQ]
   exact e1
  have hrun:=run_build (P:=P) w' t (parts.toArray.map fun p=>(p.1,a.eval p.2)) us (by simpa using hb)
  simp only [List.map_toArray] at hrun
  simp [execOp,ho,hrun]
theorem eK {sz:Nat} {ds ds':List D} (h:ds=ds'):RL sz ds' ⟨[.sl sz ds],fun k=> .one (.c (.ref ⟨k,[],0⟩))⟩:=by subst h;rfl
end
structure Hand where
 mem:Bool
 row:List D
def Hand.k (h:Hand):Nat:=if h.mem then ev else cu
theorem Hand.big (h:Hand):1000000 ≤ h.k:=by unfold Hand.k;split <;> decide
structure Handed (w:World) (g:Gh) (h:Hand):Prop where
 out:∀ b,w.heap.size ≤ b→g.o b= .outer
 own:∀ b,b < w.heap.size→g.o b= .ro ∨ (g.o b).gZ = some h.k
 iS:∀ b,g.o b ≠ .box cu
 row:∀ (q:Nat) d,h.row[q]? = some d→Ow w g h.k [] q d
 mem:h.mem=true→g.o (g.ad ev []).1= .box ev∧(∃ cs e,w.heap[(g.ad ev []).1]? = some (.cells cs e (0,0)))∧∀ q,q < h.row.length→w.cell? (bw (g.ad ev []) q)=some (g.cv ev [] q)
structure ol (w:World) (g:Gh) (h:Hand) (k:Nat) (row':List D) (r:nQ) (v:Value) (w':World) (g':Gh):Prop where
 os:w'.os=w.os
 tape:w'.tape=w.tape
 output:w'.output=w.output
 size:w.heap.size ≤ w'.heap.size
 block:∀ b,b < w.heap.size→g.o b= .ro→w'.heap[b]? = w.heap[b]?
 own:∀ b,b < w'.heap.size→(w.heap.size ≤ b ∨ g.o b ≠ .ro)→g'.o b= .ro ∨ (g'.o b).gZ = some k ∨ (g'.o b).gZ = some h.k
 old:∀ b,((g'.o b).gZ = some k ∨ (g'.o b).gZ = some h.k)→b < w'.heap.size∧(w.heap.size ≤ b ∨ g.o b ≠ .ro)
 row:∀ (q:Nat) d,r.row[q]? = some d→Ow w' g' k [] q d
 hlen:row'.length=h.row.length
 hrow:∀ (q:Nat) d,row'[q]? = some d→Ow w' g' h.k [] q d
 pinl:h.mem=false→∀ q,q < h.row.length→g'.cv cu [] q=g.cv cu [] q
 pinb:h.mem=true→g'.ad ev []=g.ad ev []∧g'.o (g'.ad ev []).1= .box ev∧(∃ cs e,w'.heap[(g'.ad ev []).1]? = some (.cells cs e (0,0)))∧∀ q,q < row'.length→w'.cell? (bw (g'.ad ev []) q)=some (g'.cv ev [] q)
 val:dN w' g' (r.val k) v
def eH (P:Program) (f:FuncId) (h:Hand) (pts:List TS) (R:List D→nQ→Prop):Prop:=
 ∀ (w:World) (g:Gh) (args:Array Value) (k:Nat),k < 1000000→Handed w g h→args.size=pts.length→(∀ (i:Nat) t u,pts[i]? = some t→args[i]? = some u→dN w g t u)→
  Calls P f args w fun e w'=>∃ v row' r g',e= .returned v∧R row' r∧ol w g h k row' r v w' g'
def ND (P:Program) (fn:Func) (h:Hand) (R:List D→nQ→Prop) (e:Exit) (st:St):Prop:=
 (e= .normal ∨ e= .ret)∧∃ (w6:List ResultVar) (dm:List TV) (row row':List D),fn.results=w6.toArray∧w6.length ≤ 4∧w6.map (uA P st)=dm.map some∧
  (dm.flatMap fR).Nodup∧iE st (dm.flatMap fR)=some row∧st.root h.k=some ⟨h.mem,row'.map C.own⟩∧row'.length=h.row.length∧((dm.flatMap fR).all fun s=>s.1 != h.k)=true∧
  R row' ⟨row,fun k=>oO (dm.map (jo (dm.flatMap fR) k))⟩
def Gh.eL (g:Gh) (aO:List (Nat×Nat)) (k K:Nat):Gh where
 o b:=match g.o b with
  | .c6 k' p q=>if k'=K then .c6 K p q else match p with
   | []=>match idxOf (k',q) aO with|some j=> .c6 k [] j|none=> .ro
   | (q1,i) :: r=>match idxOf (k',q1) aO with|some j=> .c6 k ((j,i) :: r) q|none=> .ro
  | .box k'=>if k'=K then .box K else .ro
  | t=>t
 ad k' p:=if k'=K then g.ad K p else match p with| []=>(0,0)|(j,i) :: r=>match aO[j]? with|some s=>g.ad s.1 ((s.2,i) :: r)|none=>(0,0)
 cv k' p q:=if k'=K then g.cv K p q else match p with| []=>(match aO[q]? with|some s=>g.cv s.1 [] s.2|none=>undef)|(j,i) :: r=>match aO[j]? with|some s=>g.cv s.1 ((s.2,i) :: r) q|none=>undef
section
variable {P:Program} {w w':World} {g0 g:Gh} {st:St} {a:Act}
theorem F0 {aO:List (Nat×Nat)} {k K:Nat} (CI:k ≠ K) {c:C} {u:Value} (h:gC w' g c u):gC w' (g.eL aO k K) (DF aO k c) u:=by
 cases c with
 | ro d=>
  cases d with
  | v x=>
   have h3:Ro w' g.o (.v x) u:=h
   cases h3 with
   | v _ hp=>exact Ro.v _ hp
  | _=>trivial
 | own d=>trivial
 | ref pl=>
  obtain ⟨pk,pp,pq⟩:=pl
  simp only [DF]
  split
  ·rename_i j h1 h2
   have:=ff h2
   refine ⟨?_,h.2⟩
   simp only [Gh.eL,this,if_neg CI]
   exact h.1
  ·trivial
 | dead=>trivial
theorem PU {aO:List (Nat×Nat)} {k K:Nat} (CI:k ≠ K) {t:TV} {u:Value} (h:eV w' g t u):eV w' (g.eL aO k K) (jo aO k t) u:=by
 cases h with
 | c c u hv=>exact .c _ u (F0 CI hv)
 | agg cs us hs hv=>
  refine .agg _ us (by simpa using hs) fun j c u h1 h2=> ?_
  rw [List.getElem?_map,Option.map_eq_some_iff] at h1
  obtain ⟨c',h1,rfl⟩:=h1
  exact F0 CI (hv j c' u h1 h2)
 | _=>exact .dead _
theorem Rel.gives2 {h:Hand} (hR:Rel w g0 st a w' g) (hH:Handed w g0 h) {aO:List (Nat×Nat)} (hn:aO.Nodup) {row row':List D} (hc:iE st aO=some row) (hr:st.root h.k=some ⟨h.mem,row'.map C.own⟩)
  (hl:row'.length=h.row.length) (hne:(aO.all fun s=>s.1 != h.k)=true) {k:Nat} (hk:k < 1000000) {T:Nat→TS} {v:Value} (hv:dN w' (g.eL aO k h.k) (T k) v):
  ol w g0 h k row' ⟨row,T⟩ v w' (g.eL aO k h.k):=by
 have CI:k ≠ h.k:=by have:=h.big;omega
 have CC:∀ b,b < w.heap.size→g0.o b= .ro→w'.heap[b]? = w.heap[b]? ∧g.o b= .ro:=fun b hb h1=>by
  obtain ⟨h2,h3⟩:=hR.ks.block b hb (.inl h1)
  exact ⟨h2,h3.trans h1⟩
 have hout:∀ b,b < w'.heap.size→g.o b ≠ .outer:=fun b hb ht=>by
  obtain ⟨h1,h2⟩:=hR.ks.old b hb ht
  rcases hH.own b h1 with h3|h3
  rw [h3] at h2;cases h2
  rw [h2] at h3;cases h3
 refine ⟨hR.ks.os,hR.ks.tape,hR.ks.output,hR.ks.size,fun b hb h1=>(CC b hb h1).1,fun b h2 _=> ?_,fun b hb=>⟨?_, ?_⟩,fun q d hq=> ?_,hl,fun q d hq=> ?_,fun hm q _=> ?_,fun hm=> ?_,hv⟩
 simp only [Gh.eL]
 cases ht:g.o b with
 | ro=>exact .inl rfl
 | outer=>exact absurd ht (hout b h2)
 | box k'=>
  simp only
  split
  exact .inr (.inr rfl)
  exact .inl rfl
 | c6 k' p q=>
  simp only
  split
  exact .inr (.inr rfl)
  cases p with
  | nil=>
   simp only
   split
   exact .inr (.inl rfl)
   exact .inl rfl
  | cons x r=>
   obtain ⟨q1,i⟩:=x
   simp only
   split
   exact .inr (.inl rfl)
   exact .inl rfl
 rcases Nat.lt_or_ge b w'.heap.size with h1|h1
 exact h1
 have:=hR.ks.fresh b h1
 simp only [Gh.eL,this] at hb
 rcases hb with hb|hb <;> cases hb
 rcases Nat.lt_or_ge b w.heap.size with h1|h1
 refine .inr fun h2=> ?_
 have:=(CC b h1 h2).2
 simp only [Gh.eL,this] at hb
 rcases hb with hb|hb <;> cases hb
 exact .inl h1
 obtain ⟨s,h1,h2⟩:=(kG hc).2 q d hq
 have fE:s.1 ≠ h.k:=by simpa using List.all_eq_true.1 hne s (List.mem_of_getElem? h1)
 have hO:Ow w' g s.1 [] s.2 d:=(hR.cellAt h2).1 d rfl
 have hi:=rO hn h1
 refine Ow.move hO ⟨?_,fun i r q'=> ?_,fun i r=> ?_,fun b hb=>⟨?_,rfl⟩,fun b i r q' hb=>⟨?_,rfl⟩⟩
 simp [Gh.eL,h1,CI]
 simp [Gh.eL,h1,CI]
 simp [Gh.eL,h1,CI]
 simp only [Gh.eL,hb,hi,if_neg fE]
 simp only [Gh.eL,hb,List.nil_append,hi,if_neg fE]
 have hO:Ow w' g h.k [] q d:=hR.rt.cell h.k _ hr q (.own d) (by simp [hq])
 refine Ow.move hO ⟨?_,fun i r q'=> ?_,fun i r=> ?_,fun b hb=>⟨?_,rfl⟩,fun b i r q' hb=>⟨?_,rfl⟩⟩
 simp [Gh.eL]
 simp [Gh.eL]
 simp [Gh.eL]
 simp [Gh.eL,hb]
 simp [Gh.eL,hb]
 have hK:h.k=cu:=by simp [Hand.k,hm]
 simp only [Gh.eL,hK,if_true]
 exact hR.ks.v8.1 q
 have hK:h.k=ev:=by simp [Hand.k,hm]
 obtain ⟨m1,m2,m3⟩:=hR.rt.mem h.k _ hr hm
 rw [hK] at m1 m2 m3
 have had:(g.eL aO k h.k).ad ev []=g.ad ev []:=by simp [Gh.eL,hK]
 rw [had]
 refine ⟨hR.ks.v8.2,by simp only [Gh.eL,m1,hK,if_true],m2,fun q hq=> ?_⟩
 have:=m3 q (by simpa using hq)
 rw [this]
 simp [Gh.eL,hK]
theorem Rel.Z_ {fn:Func} {h:Hand} {R:List D→nQ→Prop} {e:Exit} {k:Nat} {g':Gh} (hR:Rel w g st a w' g') (hH:Handed w g h) (hk:k < 1000000) (hE:ND P fn h R e st):
  ∃ v,(results fn a.tmps).run P w'= .ok v w'∧∃ v_1 row' r g1,Ending.returned v=Ending.returned v_1∧R row' r∧(ol w g h k row' r v_1 w' g1∧∀ p q,g1.cv h.k p q=g'.cv h.k p q):=by
 obtain ⟨he,w6,dm,row,row',h1,h2,h3,h4,h5,h6,h7,h8,h9⟩:=hE
 have CI:k ≠ h.k:=by have:=h.big;omega
 have hlen:w6.length=dm.length:=by
  have:=congrArg List.length h3
  simpa using this
 obtain ⟨us,Rp,Rq,uB⟩:=hR.resultList h3
 have hrun:=qq (P:=P) h1 h2 a.tmps w' Rp Rq
 have zq:∀ (i:Nat) t u,dm[i]? = some t→us[i]? = some u→eV w' (g'.eL (dm.flatMap fR) k h.k) (jo (dm.flatMap fR) k t) u:=fun i t u hi hu=>PU CI (uB i t u hi hu)
 have hval:dN w' (g'.eL (dm.flatMap fR) k h.k) (oO (dm.map (jo (dm.flatMap fR) k))) (Eg us):=by
  have Ln:∀ l:List Value,l.length=dm.length→(∀ (i:Nat) t u,dm[i]? = some t→l[i]? = some u→eV w' (g'.eL (dm.flatMap fR) k h.k) (jo (dm.flatMap fR) k t) u)→
    dN w' (g'.eL (dm.flatMap fR) k h.k) (.mj (dm.map (jo (dm.flatMap fR) k))) (.tuple l.toArray):=fun l hl hh=>
   .mj _ _ (by simp [hl]) fun j t u hj hu=>by
    rw [List.getElem?_map,Option.map_eq_some_iff] at hj
    obtain ⟨t',hj,rfl⟩:=hj
    exact hh j t' u hj (by simpa using hu)
  have hl:=Ln us (by omega) zq
  have X1:us.length=dm.length:=by omega
  clear hrun Rq uB h3 h5 h9 h8 h4
  match us,dm,X1 with
  | [],[],_=>exact hl
  | [t],[tv],_=>exact .one _ _ (zq 0 tv _ rfl rfl)
  | _ :: _ :: _,_ :: _ :: _,_=>exact hl
 have hG:=hR.gives2 hH h4 h5 h6 h7 h8 hk (T:=fun k=>oO (dm.map (jo (dm.flatMap fR) k))) hval
 exact ⟨_,hrun,_,_,_,_,rfl,h9,hG,fun p q=>by simp [Gh.eL]⟩
theorem eH.of {f:FuncId} {fn:Func} {c:Code} {h:Hand} {pts:List TS} {R:List D→nQ→Prop} (hf:P.funcs[f]? = some fn) (hb:fn.body=some c) (hn:pts.length ≤ fn.ntmps)
  (hw:∀ w g0,TC P w g0 c ⟨pts ++ List.replicate (fn.ntmps - pts.length) (.one .dead),[(h.k,⟨h.mem,h.row.map C.own⟩)]⟩ (ND P fn h R)):eH P f h pts R:=by
 intro w g args k hk hH hsz hargs
 have gT:∀ k' r,(⟨pts ++ List.replicate (fn.ntmps - pts.length) (.one .dead),[(h.k,⟨h.mem,h.row.map C.own⟩)]⟩:St).root k'=some r→k'=h.k∧r=⟨h.mem,h.row.map C.own⟩:=fun k' r hr=>by
  simp only [St.root,List.find?_cons,List.find?_nil] at hr
  split at hr
  rename_i e
  simp only [Option.map_some,Option.some.injEq] at hr
  exact ⟨(by simpa using e:h.k=k').symm,hr.symm⟩
  cases hr
 refine calls_of_wp hf hb (wp_mono (hw w g _ w g ⟨fun i tv hi=> ?_, ?_,rfl,⟨fun k' r hk' q c hq=> ?_,fun k' r hk' hm=> ?_⟩,⟨rfl,rfl,rfl,Nat.le_refl _,fun b hb _=>⟨rfl,rfl⟩,fun b hb=>hH.out b hb,fun b hb ho=> ?_,⟨fun _=>rfl,rfl⟩,hH.iS⟩⟩) fun e a w' ⟨st,g',hE,hR⟩=> ?_)
 by_cases hlt:i < pts.length
 rw [List.getElem?_append_left hlt] at hi
 have hi':i < args.size:=by omega
 have h1:(args ++ Array.replicate (fn.ntmps - args.size) undef).getD i undef=args[i]:=by
  rw [Array.getD_eq_getD_getElem?,Array.getElem?_append_left hi',Array.getElem?_eq_getElem hi']
  rfl
 show dN w g tv ((args ++ Array.replicate (fn.ntmps - args.size) undef).getD i undef)
 rw [h1]
 exact hargs i tv _ hi (Array.getElem?_eq_getElem hi')
 rw [List.getElem?_append_right (by omega),List.getElem?_replicate] at hi
 split at hi
 simp only [Option.some.injEq] at hi
 subst hi
 exact .one _ _ (.dead _)
 cases hi
 show (args ++ Array.replicate (fn.ntmps - args.size) undef).size=_
 simp [hsz]
 obtain ⟨rfl,rfl⟩:=gT k' r hk'
 rw [List.getElem?_map,Option.map_eq_some_iff] at hq
 obtain ⟨d,hq,rfl⟩:=hq
 exact hH.row q d hq
 obtain ⟨rfl,rfl⟩:=gT k' r hk'
 have hm':h.mem=true:=hm
 have hK:h.k=ev:=by simp [Hand.k,hm']
 rw [hK]
 obtain ⟨m1,m2,m3⟩:=hH.mem hm'
 exact ⟨m1,m2,fun q hq=>m3 q (by simpa using hq)⟩
 rcases hH.own b hb with h1|h1
 rw [h1] at ho;cases ho
 rw [ho] at h1;cases h1
 obtain ⟨v,h1,v1,row',r,g1,h2,h3,h4,_⟩:=hR.Z_ hH hk hE
 have xd:∃ v,(results fn a.tmps).run P w'= .ok v w'∧∃ v_1 row' r g1,Ending.returned v=Ending.returned v_1∧R row' r∧ol w g h k row' r v_1 w' g1:=⟨v,h1,v1,row',r,g1,h2,h3,h4⟩
 rcases hE.1 with rfl|rfl
 exact ⟨hR.df,xd⟩
 exact ⟨hR.df,xd⟩
def wg (P:Program) (f:FuncId) (row:List D) (q0:Nat) (pts:List TS) (R:List D→nQ→Prop):Prop:=
 ∀ (w:World) (g:Gh) (args:Array Value) (k:Nat),k < 1000000→Handed w g ⟨true,row⟩→args.size=pts.length→(∀ (i:Nat) t u,pts[i]? = some t→args[i]? = some u→dN w g t u)→
  Calls P f args w fun e w'=>∃ v row' r g',e= .returned v∧R row' r∧ol w g ⟨true,row⟩ k row' r v w' g'∧g'.cv ev [] q0=g.cv ev [] q0
theorem wg.two {f:FuncId} {row:List D} {q0:Nat} {pts:List TS} {R:List D→nQ→Prop} (h:wg P f row q0 pts R):eH P f ⟨true,row⟩ pts R:=fun w g args k hk hH hsz hargs=>
 (h w g args k hk hH hsz hargs).mono fun e w' ⟨v,row',r,g',h1,h2,h3,_⟩=>⟨v,row',r,g',h1,h2,h3⟩
theorem wg.of {f:FuncId} {fn:Func} {c:Code} {row:List D} {q0:Nat} {pts:List TS} {R:List D→nQ→Prop} (hf:P.funcs[f]? = some fn) (hb:fn.body=some c) (hn:pts.length ≤ fn.ntmps)
  (hp:pts.map (TS.kill (fun pl=>Nat.beq pl.k cu) fun _=>false)=pts) {sz:Nat} {ds:List D} (hq:row[q0]? = some (.sl sz ds))
  (hw:∀ w g0,TC P w g0 c ⟨pts ++ List.replicate (fn.ntmps - pts.length) (.one .dead),[(ev,⟨true,row.map C.own⟩),(cu,⟨false,[.ref ⟨ev,[],q0⟩]⟩)]⟩
   fun e st=>ND P fn ⟨true,row⟩ R e st∧∃ r,st.root cu=some r∧r.row[0]? = some (.ref ⟨ev,[],q0⟩)):wg P f row q0 pts R:=by
 intro w g args k hk hH hsz hargs
 generalize CJ:({ o:=g.o,ad:=g.ad,cv:=fun k p q=>if k=cu then (match p with| []=>if q=0 then g.cv ev [] q0 else g.cv k p q|_=>g.cv k p q) else g.cv k p q }:Gh)=gg
 have hA:qo w g w gg (fun pl=>Nat.beq pl.k cu) fun _=>false:=by
  subst CJ
  refine ⟨fun b hb=>⟨hb,rfl⟩,fun pl h=> ?_,fun _ _=>rfl⟩
  have:pl.k ≠ cu:=fun e=>by simp [e] at h
  simp only [if_neg this]
 have hKB:ev ≠ cu:=by decide
 have Ur:Handed w gg ⟨true,row⟩:=by
  have gz:∀ p q,gg.cv ev p q=g.cv ev p q:=fun p q=>by subst CJ;simp only [if_neg hKB]
  have ho:gg.o=g.o:=by subst CJ;rfl
  have had:gg.ad=g.ad:=by subst CJ;rfl
  refine ⟨fun b hb=> ?_,fun b hb=> ?_,fun b=> ?_,fun q d hq=> ?_,fun hm=> ?_⟩
  rw [ho];exact hH.out b hb
  rw [ho];exact hH.own b hb
  rw [ho];exact hH.iS b
  exact Ow.move (hH.row q d hq) ⟨gz _ _,fun i r q'=>gz _ _,fun i r=>by rw [had],fun b hb=>⟨by rw [ho];exact hb,rfl⟩,fun b i r q' hb=>⟨by rw [ho];exact hb,rfl⟩⟩
  have:=hH.mem hm
  rw [ho,had]
  simp only [gz]
  exact this
 have I3:gg.cv cu [] 0=g.cv ev [] q0:=by subst CJ;simp
 have hB:gg.cv ev [] q0=g.cv ev [] q0:=by subst CJ;simp only [if_neg hKB]
 have hone:(g.cv ev [] q0).oneCell'=true:=by
  cases hH.row q0 _ hq with
  | nil _ _ _ hc=>have hc:g.cv ev [] q0=_:=hc;rw [hc];rfl
  | sl _ _ _ _ b off n c cs e hc=>have hc:g.cv ev [] q0=_:=hc;rw [hc];rfl
 have gT:∀ k' r,(⟨pts ++ List.replicate (fn.ntmps - pts.length) (.one .dead),[(ev,⟨true,row.map C.own⟩),(cu,⟨false,[.ref ⟨ev,[],q0⟩]⟩)]⟩:St).root k'=some r→
   (k'=ev∧r=⟨true,row.map C.own⟩) ∨ (k'=cu∧r=⟨false,[.ref ⟨ev,[],q0⟩]⟩):=fun k' r hr=>by
  simp only [St.root,List.find?_cons,List.find?_nil] at hr
  split at hr
  rename_i e
  simp only [Option.map_some,Option.some.injEq] at hr
  exact .inl ⟨(by simpa using e:ev=k').symm,hr.symm⟩
  split at hr
  rename_i e
  simp only [Option.map_some,Option.some.injEq] at hr
  exact .inr ⟨(by simpa using e:cu=k').symm,hr.symm⟩
  cases hr
 have PV:∀ (i:Nat) t u,pts[i]? = some t→args[i]? = some u→dN w gg t u:=fun i t u hi hu=>by
  have h1:=(hargs i t u hi hu).kill hA
  have h2:=congrArg (fun l:List TS=>l[i]?) hp
  simp only [List.getElem?_map,hi,Option.map_some,Option.some.injEq] at h2
  rw [h2] at h1
  exact h1
 refine calls_of_wp hf hb (wp_mono (hw w gg _ w gg ⟨fun i tv hi=> ?_, ?_,rfl,⟨fun k' r hk' q c hq=> ?_,fun k' r hk' hm=> ?_⟩,⟨rfl,rfl,rfl,Nat.le_refl _,fun b hb _=>⟨rfl,rfl⟩,fun b hb=>Ur.out b hb,fun b hb ho=> ?_,⟨fun _=>rfl,rfl⟩,Ur.iS⟩⟩) fun e a w' ⟨st,g',⟨hE,r1,Tc,PW⟩,hR⟩=> ?_)
 by_cases hlt:i < pts.length
 rw [List.getElem?_append_left hlt] at hi
 have hi':i < args.size:=by omega
 have h1:(args ++ Array.replicate (fn.ntmps - args.size) undef).getD i undef=args[i]:=by
  rw [Array.getD_eq_getD_getElem?,Array.getElem?_append_left hi',Array.getElem?_eq_getElem hi']
  rfl
 show dN w gg tv ((args ++ Array.replicate (fn.ntmps - args.size) undef).getD i undef)
 rw [h1]
 exact PV i tv _ hi (Array.getElem?_eq_getElem hi')
 rw [List.getElem?_append_right (by omega),List.getElem?_replicate] at hi
 split at hi
 simp only [Option.some.injEq] at hi
 subst hi
 exact .one _ _ (.dead _)
 cases hi
 show (args ++ Array.replicate (fn.ntmps - args.size) undef).size=_
 simp [hsz]
 rcases gT k' r hk' with ⟨rfl,rfl⟩|⟨rfl,rfl⟩
 rw [List.getElem?_map,Option.map_eq_some_iff] at hq
 obtain ⟨d,hq,rfl⟩:=hq
 exact Ur.row q d hq
 cases q with
 | zero=>
  simp only [List.getElem?_cons_zero,Option.some.injEq] at hq
  subst hq
  show gg.cv cu [] 0=gg.cv ev [] q0∧(gg.cv cu [] 0).oneCell'=true
  rw [I3,hB]
  exact ⟨rfl,hone⟩
 | succ q=>simp at hq
 rcases gT k' r hk' with ⟨rfl,rfl⟩|⟨rfl,rfl⟩
 obtain ⟨m1,m2,m3⟩:=Ur.mem rfl
 exact ⟨m1,m2,fun q hq=>m3 q (by simpa using hq)⟩
 cases hm
 rcases Ur.own b hb with h1|h1
 rw [h1] at ho;cases ho
 rw [ho] at h1;cases h1
 have zq:g'.cv cu [] 0=g'.cv ev [] q0:=(hR.rt.cell cu r1 Tc 0 _ PW).1
 have hkp:g'.cv cu [] 0=gg.cv cu [] 0:=hR.ks.v8.1 0
 obtain ⟨v,h1,v1,row',r,g1,h2,h3,h4,h5⟩:=hR.Z_ Ur hk hE
 have h6:g1.cv ev [] q0=g.cv ev [] q0:=by rw [show g1.cv ev [] q0=g'.cv ev [] q0 from h5 [] q0, ← zq,hkp,I3]
 have h7:ol w g ⟨true,row⟩ k row' r v1 w' g1:=by
  have ho:gg.o=g.o:=by subst CJ;rfl
  have had:gg.ad=g.ad:=by subst CJ;rfl
  refine ⟨h4.os,h4.tape,h4.output,h4.size,fun b hb hx=>h4.block b hb (by rw [ho];exact hx),fun b hb hx=>h4.own b hb (by rw [ho];exact hx),fun b hx=>by rw [← ho];exact h4.old b hx,h4.row,h4.hlen,h4.hrow,fun hm=>(by cases hm),fun hm=>by rw [← had];exact h4.pinb hm,h4.val⟩
 have xd:∃ v,(results fn a.tmps).run P w'= .ok v w'∧∃ v_1 row' r g1,Ending.returned v=Ending.returned v_1∧R row' r∧ol w g ⟨true,row⟩ k row' r v_1 w' g1∧g1.cv ev [] q0=g.cv ev [] q0:=⟨v,h1,v1,row',r,g1,h2,h3,h7,h6⟩
 rcases hE.1 with rfl|rfl
 exact ⟨hR.df,xd⟩
 exact ⟨hR.df,xd⟩
end
def aaa (pl:Pl):Nat:=match pl.p with| []=>pl.q|(q,_) :: _=>q
def Gh.hand (g:Gh) (n:Nat) (aO:List (Nat×Nat)) (bx:Option Nat) (K:Nat):Gh where
 o b:=if n ≤ b then .outer else match g.o b with
  | .c6 k' p q=>(match p with
   | []=>match idxOf (k',q) aO with|some j=> .c6 K [] j|none=> .ro
   | (q1,i) :: r=>match idxOf (k',q1) aO with|some j=> .c6 K ((j,i) :: r) q|none=> .ro)
  | .box k'=>if bx=some k' then .box K else .ro
  | _=> .ro
 ad k' p:=if k'=K then (match p with| []=>g.ad (bx.getD 0) []|(j,i) :: r=>match aO[j]? with|some s=>g.ad s.1 ((s.2,i) :: r)|none=>(0,0)) else g.ad k' p
 cv k' p q:=if k'=K then (match p with| []=>(match aO[q]? with|some s=>g.cv s.1 [] s.2|none=>undef)|(j,i) :: r=>match aO[j]? with|some s=>g.cv s.1 ((s.2,i) :: r) q|none=>undef) else g.cv k' p q
def uF (aO:List (Nat×Nat)) (bx:Option Nat) (K kd:Nat):Tag→Tag
 | .c6 k' p q=>if k'=K then (match p with
   | []=>match aO[q]? with|some s=> .c6 s.1 [] s.2|none=> .ro
   | (j,i) :: r=>match aO[j]? with|some s=> .c6 s.1 ((s.2,i) :: r) q|none=> .ro)
  else if k'=kd then .c6 kd p q else .ro
 | .box k'=>if k'=K then (match bx with|some kb=> .box kb|none=> .ro) else .ro
 | _=> .ro
def Tag.Ya:Tag→Bool
 | .ro=>true
 | _=>false
theorem F1 {t:Tag}:t.Ya=true ↔ t= .ro:=by cases t <;> simp [Tag.Ya]
def Gh.back (g gc g':Gh) (n n':Nat) (aO:List (Nat×Nat)) (bx:Option Nat) (K kd:Nat):Gh where
 o b:=if b < n∧(gc.o b).Ya=true then g.o b else if b < n' then uF aO bx K kd (g'.o b) else .outer
 ad k' p:=if k'=kd then g'.ad kd p else match p with
  | []=>g.ad k' []
  | (q,i) :: r=>match idxOf (k',q) aO with|some j=>g'.ad K ((j,i) :: r)|none=>g.ad k' ((q,i) :: r)
 cv k' p q:=if k'=kd then g'.cv kd p q else match p with
  | []=>(match idxOf (k',q) aO with|some j=>g'.cv K [] j|none=>g.cv k' [] q)
  | (q1,i) :: r=>match idxOf (k',q1) aO with|some j=>g'.cv K ((j,i) :: r) q|none=>g.cv k' ((q1,i) :: r) q
def wh (aO:List (Nat×Nat)) (mem:Bool) (kd:Nat) (pl:Pl):Bool:=pl.k == kd || (aO.contains (pl.k,aaa pl) && (mem || !pl.p.isEmpty))
def Bn (aO:List (Nat×Nat)) (kd:Nat) (pl:Pl):Bool:=pl.k == kd || (aO.contains (pl.k,aaa pl) && !pl.p.isEmpty)
def rA (aO:List (Nat×Nat)) (rows:List D) (pr:Pl→Bool) (k:Nat):Nat→List C→List C
 | _,[]=>[]
 | q,c :: l=>(match idxOf (k,q) aO with|some j=>(match rows[j]? with|some d=> .own d|none=> .dead)|none=>c.kill pr) :: rA aO rows pr k (q + 1) l
theorem DM (aO:List (Nat×Nat)) (rows:List D) (pr:Pl→Bool) (k:Nat):∀ (l:List C) (q0 q:Nat) (c':C),(rA aO rows pr k q0 l)[q]? = some c'→
  ∃ c,l[q]? = some c∧c'=(match idxOf (k,q0 + q) aO with|some j=>(match rows[j]? with|some d=> .own d|none=> .dead)|none=>c.kill pr)
 | [],q0,q,c',h=>by simp [rA] at h
 | c :: l,q0,0,c',h=>by
  simp only [rA,List.getElem?_cons_zero,Option.some.injEq] at h
  exact ⟨c,rfl,h.symm⟩
 | c :: l,q0,q + 1,c',h=>by
  simp only [rA,List.getElem?_cons_succ] at h
  obtain ⟨c1,h1,h2⟩:=DM aO rows pr k l (q0 + 1) q c' h
  exact ⟨c1,by simpa using h1,by rw [h2,show q0 + 1 + q=q0 + (q + 1) by omega]⟩
theorem xh (aO:List (Nat×Nat)) (rows:List D) (pr:Pl→Bool) (k:Nat):∀ (l:List C) (q0:Nat),(rA aO rows pr k q0 l).length=l.length
 | [],_=>rfl
 | c :: l,q0=>by simp [rA,xh aO rows pr k l]
def St.iJ (st:St) (aO:List (Nat×Nat)) (mem:Bool) (rows:List D) (kd:Nat):St:=
 ⟨st.tmps.map (TS.kill (wh aO mem kd) (Bn aO kd)),(st.roots.filter fun x=>x.1 != kd).map fun x=>(x.1,⟨x.2.mem,rA aO rows (wh aO mem kd) x.1 0 x.2.row⟩)⟩
theorem qB (st:St) (aO:List (Nat×Nat)) (mem:Bool) (rows:List D) (kd k:Nat):(st.iJ aO mem rows kd).root k=
  if k=kd then none else (st.root k).map fun r=>⟨r.mem,rA aO rows (wh aO mem kd) k 0 r.row⟩:=by
 obtain ⟨tm,roots⟩:=st
 simp only [St.root,St.iJ]
 induction roots with
 | nil=>simp
 | cons x l ih=>
  obtain ⟨i,r⟩:=x
  by_cases h1:i=kd
  subst h1
  simp only [List.filter_cons,bne_self_eq_false,Bool.false_eq_true,if_false,ih]
  by_cases h2:k=i
  simp [h2]
  have:(i == k)=false:=by simpa using fun e=>h2 e.symm
  simp [h2,List.find?_cons,this]
  have JL:(i != kd)=true:=by simpa using h1
  simp only [List.filter_cons,JL,if_true,List.map_cons,List.find?_cons]
  by_cases h2:i=k
  subst h2
  simp [h1]
  have:(i == k)=false:=by simpa using h2
  simp only [this,ih]
def fY (kb n:Nat):List (Nat×Nat):=(List.range n).map fun q=>(kb,q)
structure fO (st:St) (h:Hand) (aO:List (Nat×Nat)) (bx:Option Nat) (kd:Nat):Prop where
 nodup:aO.Nodup
 cont:iE st aO=some h.row
 Yb:kd < 1000000
 nkd:∀ s ∈ aO,s.1 ≠ kd
 box:if h.mem then ∃ kb r,bx=some kb∧st.root kb=some r∧r.mem=true∧aO=fY kb h.row.length∧r.row.length=h.row.length∧kb ≠ kd else bx=none
inductive DN (st:St) (aO:List (Nat×Nat)) (K:Nat):C→C→Prop
 | ro (d:D):DN st aO K (.ro d) (.ro d)
 | hand {k q j:Nat} (h:idxOf (k,q) aO=some j):DN st aO K (.ref ⟨k,[],q⟩) (.ref ⟨K,[],j⟩)
 | deep {k q1 i q j:Nat} {r:List (Nat×Nat)} (h:idxOf (k,q1) aO=some j):DN st aO K (.ref ⟨k,(q1,i) :: r,q⟩) (.ref ⟨K,(j,i) :: r,q⟩)
 | tS {pl:Pl} {d:D} (h:st.cellAt pl=some (.own d)) (hw:Whole d) (hn:(aO.all fun s=>s.1 != pl.k)=true):DN st aO K (.ref pl) (.ro d)
inductive iA (st:St) (aO:List (Nat×Nat)) (K:Nat):List C→List C→Prop
 | nil:iA st aO K [] []
 | cons {c c':C} {l l':List C} (h:DN st aO K c c') (hl:iA st aO K l l'):iA st aO K (c :: l) (c' :: l')
inductive xj (st:St) (aO:List (Nat×Nat)) (bx:Option Nat) (K:Nat):TS→TS→Prop
 | c {c c':C} (h:DN st aO K c c'):xj st aO bx K (.one (.c c)) (.one (.c c'))
 | agg {cs cs':List C} (h:iA st aO K cs cs'):xj st aO bx K (.one (.agg cs)) (.one (.agg cs'))
 | ptr {kb q:Nat} (h:bx=some kb):xj st aO bx K (.one (.ptr ⟨kb,[],q⟩)) (.one (.ptr ⟨K,[],q⟩))
 | Yc {kb q1 i q j:Nat} {r:List (Nat×Nat)} (hi:idxOf (kb,q1) aO=some j):xj st aO bx K (.one (.ptr ⟨kb,(q1,i) :: r,q⟩)) (.one (.ptr ⟨K,(j,i) :: r,q⟩))
 | b9 (ds:List D):xj st aO bx K (.one (.b9 ds)) (.one (.b9 ds))
 | fn (f:FuncId):xj st aO bx K (.fn f []) (.fn f [])
 | XY (f:FuncId) (fV:List TV) (h:fV.all UL=true):xj st aO bx K (.fn f fV) (.fn f fV)
 | fnX (f:FuncId) {kb q:Nat} (h:bx=some kb):xj st aO bx K (.fn f [.ptr ⟨kb,[],q⟩]) (.fn f [.ptr ⟨K,[],q⟩])
inductive bk (st:St) (aO:List (Nat×Nat)) (bx:Option Nat) (K:Nat):List TS→List TS→Prop
 | nil:bk st aO bx K [] []
 | cons {t t':TS} {ts ts':List TS} (h:xj st aO bx K t t') (hs:bk st aO bx K ts ts'):bk st aO bx K (t :: ts) (t' :: ts')
theorem iA.get {st:St} {aO:List (Nat×Nat)} {K:Nat} {cs cs':List C} (h:iA st aO K cs cs'):cs'.length=cs.length∧∀ (j:Nat) c',cs'[j]? = some c'→∃ c,cs[j]? = some c∧DN st aO K c c':=by
 induction h with
 | nil=>exact ⟨rfl,fun j c h=>by simp at h⟩
 | cons h hl ih=>
  refine ⟨by simp [ih.1],fun j c' hj=> ?_⟩
  cases j with
  | zero=>
   simp only [List.getElem?_cons_zero,Option.some.injEq] at hj
   subst hj
   exact ⟨_,rfl,h⟩
  | succ j=>exact ih.2 j c' (by simpa using hj)
theorem bk.get {st:St} {aO:List (Nat×Nat)} {bx:Option Nat} {K:Nat} {ts ts':List TS} (h:bk st aO bx K ts ts'):ts'.length=ts.length∧∀ (i:Nat) t',ts'[i]? = some t'→∃ t,ts[i]? = some t∧xj st aO bx K t t':=by
 induction h with
 | nil=>exact ⟨rfl,fun i t' hi=>by simp at hi⟩
 | cons h hs ih=>
  refine ⟨by simp [ih.1],fun i t' hi=> ?_⟩
  cases i with
  | zero=>
   simp only [List.getElem?_cons_zero,Option.some.injEq] at hi
   subst hi
   exact ⟨_,rfl,h⟩
  | succ i=>exact ih.2 i t' (by simpa using hi)
section
variable {P:Program} {w0:World} {g0:Gh} {st:St} {a:Act} {w w':World} {g g':Gh} {h:Hand} {aO:List (Nat×Nat)} {bx:Option Nat} {kd:Nat}
theorem Lt (g:Gh) (n:Nat) (aO:List (Nat×Nat)) (bx:Option Nat) (K:Nat) {b:Nat} (hb:b < n) (h:g.o b= .ro ∨ g.o b= .outer):(g.hand n aO bx K).o b= .ro:=by
 simp only [Gh.hand,if_neg (Nat.not_le.2 hb)]
 rcases h with h|h <;> rw [h]
theorem fO.Fg (hC:fO st h aO bx kd) (hm:h.mem=false):bx=none:=by
 have:=hC.box
 rw [hm] at this
 simpa using this
theorem fO.vk (hC:fO st h aO bx kd) (hm:h.mem=true):∃ kb r,bx=some kb∧st.root kb=some r∧r.mem=true∧aO=fY kb h.row.length∧r.row.length=h.row.length∧kb ≠ kd:=by
 have:=hC.box
 rw [hm] at this
 simpa using this
theorem Rel.iJ (hR:Rel w0 g0 st a w g) (hC:fO st h aO bx kd):Handed w (g.hand w.heap.size aO bx h.k) h:=by
 refine ⟨fun b hb=>by simp [Gh.hand,hb],fun b hb=> ?_,fun b=> ?_,fun q d hq=> ?_,fun hm=> ?_⟩
 simp only [Gh.hand,if_neg (Nat.not_le.2 hb)]
 split
 split
 split
 exact .inr rfl
 exact .inl rfl
 split
 exact .inr rfl
 exact .inl rfl
 split
 exact .inr rfl
 exact .inl rfl
 exact .inl rfl
 intro hb
 simp only [Gh.hand] at hb
 split at hb
 cases hb
 split at hb
 split at hb <;> split at hb <;> cases hb
 rename_i k' hk'
 split at hb
 rename_i e
 simp only [Tag.box.injEq] at hb
 cases hm:h.mem with
 | false=>rw [hC.Fg hm] at e;cases e
 | true=>simp [Hand.k,hm] at hb
 cases hb
 cases hb
 obtain ⟨s,h1,h2⟩:=(kG hC.cont).2 q d hq
 have hO:Ow w g s.1 [] s.2 d:=(hR.cellAt h2).1 d rfl
 have hi:=rO hC.nodup h1
 have hlt:∀ b,g.o b ≠ .outer→b < w.heap.size:=fun b hb=>by
  rcases Nat.lt_or_ge b w.heap.size with h|h
  exact h
  exact absurd (hR.ks.fresh b h) hb
 refine Ow.move hO ⟨?_,fun i r q'=> ?_,fun i r=> ?_,fun b hb=>⟨?_,rfl⟩,fun b i r q' hb=>⟨?_,rfl⟩⟩
 simp [Gh.hand,h1]
 simp [Gh.hand,h1]
 simp [Gh.hand,h1]
 have:=hlt b (by rw [hb];simp)
 simp only [Gh.hand,if_neg (Nat.not_le.2 this),hb,hi]
 have:=hlt b (by rw [hb];simp)
 simp only [Gh.hand,if_neg (Nat.not_le.2 this),hb,List.nil_append,hi]
 obtain ⟨kb,r,e1,e2,e3,e4,e5,e6⟩:=hC.vk hm
 have hK:h.k=ev:=by simp [Hand.k,hm]
 obtain ⟨m1,⟨cs,e,m2⟩,m3⟩:=hR.rt.mem kb r e2 e3
 have had:(g.hand w.heap.size aO bx h.k).ad ev []=g.ad kb []:=by simp [Gh.hand,hK,e1]
 have hlt:=kF m2
 rw [had]
 refine ⟨by simp only [Gh.hand,if_neg (Nat.not_le.2 hlt),m1,e1,if_true,hK],⟨cs,e,m2⟩,fun q hq=> ?_⟩
 rw [m3 q (by omega)]
 simp [Gh.hand,hK,e4,fY,hq]
theorem Rel.aab (hR:Rel w0 g0 st a w g) (hC:fO st h aO bx kd) {c c':C} {u:Value} (hg:DN st aO h.k c c') (hu:gC w g c u):gC w (g.hand w.heap.size aO bx h.k) c' u:=by
 cases hg with
 | ro d=>exact Ro.mono (w:=w) (fun b hb=>⟨Lt g _ _ _ _ (hR.UM b hb) (.inl hb),rfl⟩) hu
 | hand hi=>
  refine ⟨?_,hu.2⟩
  simp only [Gh.hand,if_true,ff hi]
  exact hu.1
 | deep hi=>
  refine ⟨?_,hu.2⟩
  simp only [Gh.hand,if_true,ff hi]
  exact hu.1
 | @tS pl d hc hw hn=>
  have h1:u=g.cv pl.k pl.p pl.q:=hu.1
  rw [h1]
  refine ((hR.cellAt hc).1 d rfl).roAt hw fun b hb hlt=> ?_
  have hno:∀ q,idxOf (pl.k,q) aO=none:=fun q=>by
   cases hi:idxOf (pl.k,q) aO with
   | none=>rfl
   | some j=>
    have:=List.all_eq_true.1 hn _ (List.mem_of_getElem? (ff hi))
    simp at this
  simp only [Gh.hand,if_neg (Nat.not_le.2 hlt)]
  cases ht:g.o b with
  | c6 k' p q=>
   rw [ht] at hb
   have e:k'=pl.k:=by simpa [Tag.gZ] using hb
   subst e
   cases p with
   | nil=>simp [hno]
   | cons x r=>simp [hno]
  | box k'=>
   rw [ht] at hb
   have e:k'=pl.k:=by simpa [Tag.gZ] using hb
   subst e
   simp only
   split
   rename_i e
   exfalso
   cases hm:h.mem with
   | false=>rw [hC.Fg hm] at e;cases e
   | true=>
    obtain ⟨kb,r,e1,e2,e3,e4,e5,e6⟩:=hC.vk hm
    rw [e1] at e
    simp only [Option.some.injEq] at e
    have gT:st.root pl.k=some r:=e ▸ e2
    have hrow:h.row ≠ []:=fun e0=>by
     rw [e0] at e5
     have:r.row=[]:=List.eq_nil_of_length_eq_zero (by simpa using e5)
     simp only [St.cellAt,gT,this] at hc
     split at hc
     simp at hc
     simp at hc
    have hl:0 < h.row.length:=List.length_pos_iff.2 hrow
    have:=List.all_eq_true.1 hn (kb,0) (by rw [e4,fY];exact List.mem_map.2 ⟨0,List.mem_range.2 hl,rfl⟩)
    simp [e] at this
   rfl
  | ro=>rfl
  | outer=>rfl
theorem Rel.NE (hR:Rel w0 g0 st a w g) (hC:fO st h aO bx kd) {t t':TS} {u:Value} (hg:xj st aO bx h.k t t') (hu:dN w g t u):dN w (g.hand w.heap.size aO bx h.k) t' u:=by
 cases hg with
 | c hc=>
  cases hu with
  | one _ _ hu=>cases hu with
   | c _ _ hu=>exact .one _ _ (.c _ _ (hR.aab hC hc hu))
 | agg hcs=>
  cases hu with
  | one _ _ hu=>cases hu with
   | agg _ us hs hv=>
    refine .one _ _ (.agg _ us (by rw [hcs.get.1];exact hs) fun j c' u hj hu=> ?_)
    obtain ⟨c,h1,h2⟩:=hcs.get.2 j c' hj
    exact hR.aab hC h2 (hv j c u h1 hu)
 | @ptr kb q hb=>
  cases hu with
  | one _ _ hu=>cases hu with
   | ptr _=>
    have:=eV.ptr (w:=w) (g:=g.hand w.heap.size aO bx h.k) ⟨h.k,[],q⟩
    have had:(g.hand w.heap.size aO bx h.k).ad h.k []=g.ad kb []:=by simp [Gh.hand,hb]
    simp only [had] at this
    exact .one _ _ this
 | @Yc kb q1 i q j r hi=>
  cases hu with
  | one _ _ hu=>cases hu with
   | ptr _=>
    have:=eV.ptr (w:=w) (g:=g.hand w.heap.size aO bx h.k) ⟨h.k,(j,i) :: r,q⟩
    have had:(g.hand w.heap.size aO bx h.k).ad h.k ((j,i) :: r)=g.ad kb ((q1,i) :: r):=by simp [Gh.hand,ff hi]
    simp only [had] at this
    exact .one _ _ this
 | b9 ds=>
  cases hu with
  | one _ _ hu=>cases hu with
   | b9 _ b off us ho hcell=>
    have hro:∀ b,g.o b= .ro→(g.hand w.heap.size aO bx h.k).o b= .ro∧w.heap[b]? = w.heap[b]? :=fun b hb=>⟨Lt g _ _ _ _ (hR.UM b hb) (.inl hb),rfl⟩
    exact .one _ _ (.b9 ds b off us (hro b ho).1 fun j d hj=>⟨(hcell j d hj).1,(hcell j d hj).2.mono hro⟩)
 | fn f=>
  cases hu with
  | fn _ _ us hs hh=>exact .fn f [] us hs fun j t u h1 _=>by simp at h1
 | XY f fV hc=>
  cases hu with
  | fn _ _ us hs hh=>
   exact .fn f fV us hs fun j t u h1 h2=>Lm (List.all_eq_true.1 hc t (List.mem_of_getElem? h1)) (fun d v hd=>Ro.mono (fun b hb=>⟨Lt g _ _ _ _ (hR.UM b hb) (.inl hb),rfl⟩) hd) (hh j t u h1 h2)
 | @fnX f kb q hb=>
  cases hu with
  | fn _ _ us hs hh=>
   refine .fn f _ us (by simpa using hs) fun j t u h1 h2=> ?_
   cases j with
   | succ j=>simp at h1
   | zero=>
    simp only [List.getElem?_cons_zero,Option.some.injEq] at h1
    subst h1
    have h3:=hh 0 _ u rfl h2
    cases h3 with
    | ptr _=>
     have:=eV.ptr (w:=w) (g:=g.hand w.heap.size aO bx h.k) ⟨h.k,[],q⟩
     have had:(g.hand w.heap.size aO bx h.k).ad h.k []=g.ad kb []:=by simp [Gh.hand,hb]
     simp only [had] at this
     exact this
theorem F2 {kb n q:Nat} (hq:q < n):idxOf (kb,q) (fY kb n)=some q:=by
 refine rO ?_ (by simp [fY,hq])
 unfold fY List.Nodup
 rw [List.pairwise_map]
 exact List.nodup_range.imp fun hne e=>hne (by simpa using e)
theorem Rel.Bo (hR:Rel w0 g0 st a w g) (hC:fO st h aO bx kd) {rows:List D} {r:nQ} {v:Value} (hG:ol w (g.hand w.heap.size aO bx h.k) h kd rows r v w' g'):
  ∃ g2,Rel w0 g0 (st.iJ aO h.mem rows kd) a w' g2∧(∀ (q:Nat) d,r.row[q]? = some d→Ow w' g2 kd [] q d)∧
   (∀ t u,X0 kd r.row.length t=true→dN w' g' t u→dN w' g2 t u)∧(∀ k' q j,k' ≠ kd→idxOf (k',q) aO=some j→g2.cv k' [] q=g'.cv h.k [] j∧∀ d,rows[j]? = some d→Ow w' g2 k' [] q d)∧
   (∀ p q,g2.cv kd p q=g'.cv kd p q)∧∀ k' q,k' ≠ kd→idxOf (k',q) aO=none→g2.cv k' [] q=g.cv k' [] q:=by
 generalize PX:g.hand w.heap.size aO bx h.k=gc at hG
 have Al:cu ≠ kd:=by have:=hC.Yb;simp only [cu];omega
 have PG:ev ≠ kd:=by have:=hC.Yb;simp only [ev];omega
 have CI:kd ≠ h.k:=by have:=hC.Yb;have:=h.big;omega
 have hgro:∀ b,b < w.heap.size→(g.o b= .ro ∨ g.o b= .outer)→gc.o b= .ro:=fun b hb h1=>by subst PX;exact Lt g _ _ _ _ hb h1
 have hlt:∀ b,g.o b ≠ .outer→b < w.heap.size:=fun b hb=>by
  rcases Nat.lt_or_ge b w.heap.size with h|h
  exact h
  exact absurd (hR.ks.fresh b h) hb
 generalize oe:g.back gc g' w.heap.size w'.heap.size aO bx h.k kd=g2
 have hkeep:∀ b,b < w.heap.size→gc.o b= .ro→g2.o b=g.o b∧w'.heap[b]? = w.heap[b]? :=fun b hb h1=>by
  refine ⟨?_,hG.block b hb h1⟩
  subst oe
  simp only [Gh.back]
  exact if_pos ⟨hb,F1.2 h1⟩
 have hnew:∀ b,b < w'.heap.size→(w.heap.size ≤ b ∨ gc.o b ≠ .ro)→g2.o b=uF aO bx h.k kd (g'.o b):=fun b hb h1=>by
  subst oe
  simp only [Gh.back]
  rw [if_neg (fun ⟨h2,h3⟩=>by
   rcases h1 with h1|h1
   omega
   exact h1 (F1.1 h3)),if_pos hb]
 have hro:∀ b,g.o b= .ro→g2.o b= .ro∧w'.heap[b]? = w.heap[b]? :=fun b hb=>by
  have h1:=hlt b (by rw [hb];simp)
  obtain ⟨h2,h3⟩:=hkeep b h1 (hgro b h1 (.inl hb))
  exact ⟨h2.trans hb,h3⟩
 have Td:∀ k' q,k' ≠ kd→idxOf (k',q) aO=none→g2.cv k' [] q=g.cv k' [] q:=fun k' q h1 h2=>by
  subst oe;simp only [Gh.back,if_neg h1,h2]
 have U5:∀ k' q1 i r q,k' ≠ kd→idxOf (k',q1) aO=none→g2.cv k' ((q1,i) :: r) q=g.cv k' ((q1,i) :: r) q:=fun k' q1 i r q h1 h2=>by
  subst oe;simp only [Gh.back,if_neg h1,h2]
 have Nf:∀ k',k' ≠ kd→g2.ad k' []=g.ad k' []:=fun k' h1=>by
  subst oe;simp only [Gh.back,if_neg h1]
 have Yd:∀ k' q1 i r,k' ≠ kd→idxOf (k',q1) aO=none→g2.ad k' ((q1,i) :: r)=g.ad k' ((q1,i) :: r):=fun k' q1 i r h1 h2=>by
  subst oe;simp only [Gh.back,if_neg h1,h2]
 have Ye:∀ k' q j,k' ≠ kd→idxOf (k',q) aO=some j→g2.cv k' [] q=g'.cv h.k [] j:=fun k' q j h1 h2=>by
  subst oe;simp only [Gh.back,if_neg h1,h2]
 have I3:h.mem=false→∀ k' q j,k' ≠ kd→idxOf (k',q) aO=some j→g2.cv k' [] q=g.cv k' [] q:=fun hm k' q j h1 h2=>by
  have hK:h.k=cu:=by simp [Hand.k,hm]
  have hj:j < h.row.length:=by
   have h3:=(List.getElem?_eq_some_iff.1 (ff h2)).1
   rw [(kG hC.cont).1]
   exact h3
  rw [Ye k' q j h1 h2,hK,hG.pinl hm j hj, ← PX]
  simp [Gh.hand,hK,ff h2]
 have FU:∀ k' q,aO.contains (k',q)=false→idxOf (k',q) aO=none:=fun k' q h1=>by
  cases hi:idxOf (k',q) aO with
  | none=>rfl
  | some j=>
   have:=List.mem_of_getElem? (ff hi)
   rw [List.contains_iff_mem.2 this] at h1
   cases h1
 have hA:qo w g w' g2 (wh aO h.mem kd) (Bn aO kd):=by
  refine ⟨hro,fun pl hp=> ?_,fun pl hp=> ?_⟩
  obtain ⟨k',p,q⟩:=pl
  simp only [wh,Bool.or_eq_false_iff,Bool.and_eq_false_iff,beq_eq_false_iff_ne] at hp
  obtain ⟨h1,h2⟩:=hp
  cases p with
  | nil=>
   cases hi:idxOf (k',q) aO with
   | none=>exact Td k' q h1 hi
   | some j=>
    rcases h2 with h2|h2
    rw [FU k' q h2] at hi;cases hi
    exact I3 (by simpa using h2) k' q j h1 hi
  | cons x r=>
   obtain ⟨q1,i⟩:=x
   rcases h2 with h2|h2
   exact U5 k' q1 i r q h1 (FU k' q1 h2)
   simp at h2
  obtain ⟨k',p,q⟩:=pl
  simp only [Bn,Bool.or_eq_false_iff,Bool.and_eq_false_iff,beq_eq_false_iff_ne] at hp
  obtain ⟨h1,h2⟩:=hp
  cases p with
  | nil=>exact Nf k' h1
  | cons x r=>
   obtain ⟨q1,i⟩:=x
   rcases h2 with h2|h2
   exact Yd k' q1 i r h1 (FU k' q1 h2)
   simp at h2
 have hK:m7 w0 g0 w' g2:=by
  have hk:=hR.ks
  refine ⟨hG.os.trans hk.os,hG.tape.trans hk.tape,hG.output.trans hk.output,Nat.le_trans hk.size hG.size,fun b hb hx=> ?_,fun b hb=> ?_,fun b hb hx=> ?_,⟨fun q=> ?_, ?_⟩,fun b hb=> ?_⟩
  obtain ⟨h1,h2⟩:=hk.block b hb hx
  have h3:b < w.heap.size:=by have:=hk.size;omega
  obtain ⟨h4,h5⟩:=hkeep b h3 (hgro b h3 (by rw [h2];exact hx))
  exact ⟨h5.trans h1,h4.trans h2⟩
  have h1:¬ b < w.heap.size:=by have:=hG.size;omega
  subst oe
  simp only [Gh.back,if_neg (fun hh:b < w.heap.size∧_=>h1 hh.1),if_neg (Nat.not_lt.2 hb)]
  by_cases h1:b < w.heap.size∧gc.o b= .ro
  rw [(hkeep b h1.1 h1.2).1] at hx
  exact hk.old b h1.1 hx
  rw [hnew b hb (by rcases Nat.lt_or_ge b w.heap.size with h2|h2;exact .inr (fun h3=>h1 ⟨h2,h3⟩);exact .inl h2)] at hx
  exfalso
  revert hx
  cases g'.o b with
  | c6 k' p q=>
   simp only [uF]
   split
   split <;> split <;> simp
   split <;> simp
  | box k'=>
   simp only [uF]
   split
   split <;> simp
   simp
  | _=>simp [uF]
  cases hi:idxOf (cu,q) aO with
  | none=>rw [Td cu q Al hi];exact hk.v8.1 q
  | some j=>
   cases hm:h.mem with
   | false=>rw [I3 hm cu q j Al hi];exact hk.v8.1 q
   | true=>
    exfalso
    obtain ⟨kb,r,e1,e2,e3,e4,e5,e6⟩:=hC.vk hm
    have:=ff hi
    rw [e4,fY,List.getElem?_map,Option.map_eq_some_iff] at this
    obtain ⟨x,_,hx⟩:=this
    simp only [Prod.mk.injEq] at hx
    have Z5:=(hR.rt.mem kb r e2 e3).1
    rw [hx.1] at Z5
    exact hk.iS _ Z5
  rw [Nf ev PG];exact hk.v8.2
  by_cases iz:b < w'.heap.size
  by_cases h1:b < w.heap.size∧gc.o b= .ro
  rw [(hkeep b h1.1 h1.2).1] at hb
  exact hk.iS b hb
  rw [hnew b iz (by rcases Nat.lt_or_ge b w.heap.size with h2|h2;exact .inr (fun h3=>h1 ⟨h2,h3⟩);exact .inl h2)] at hb
  revert hb
  cases g'.o b with
  | c6 k' p q=>
   simp only [uF]
   split
   split <;> split <;> simp
   split <;> simp
  | box k'=>
   simp only [uF]
   split
   cases I4:bx with
   | none=>simp
   | some kb=>
    intro hb
    simp only [Tag.box.injEq] at hb
    cases hm:h.mem with
    | false=>rw [hC.Fg hm] at I4;cases I4
    | true=>
     obtain ⟨kb2,r,e1,e2,e3,e4,e5,e6⟩:=hC.vk hm
     rw [e1] at I4
     simp only [Option.some.injEq] at I4
     have Z5:=(hR.rt.mem _ r e2 e3).1
     rw [I4,hb] at Z5
     exact hk.iS _ Z5
   simp
  | _=>simp [uF]
  have h1:¬ b < w.heap.size:=by have:=hG.size;omega
  subst oe
  simp only [Gh.back,if_neg (fun hh:b < w.heap.size∧_=>h1 hh.1),if_neg iz] at hb
  cases hb
 have NF:∀ k' q j d,k' ≠ kd→idxOf (k',q) aO=some j→rows[j]? = some d→Ow w' g2 k' [] q d:=fun k' q j d h1 h2 h3=>by
  have hs:=ff h2
  have hnd:=hC.nodup
  refine Ow.move (hG.hrow j d h3) ⟨Ye k' q j h1 h2,fun i r q'=> ?_,fun i r=> ?_,fun b hb=>⟨?_,rfl⟩,fun b i r q' hb=>⟨?_,rfl⟩⟩
  subst oe;simp only [Gh.back,if_neg h1,List.nil_append,h2]
  subst oe;simp only [Gh.back,if_neg h1,List.nil_append,h2]
  obtain ⟨o1,o2⟩:=hG.old b (.inr (by rw [hb];rfl))
  rw [hnew b o1 o2,hb]
  simp only [uF,if_true,hs]
  obtain ⟨o1,o2⟩:=hG.old b (.inr (by rw [hb];rfl))
  rw [hnew b o1 o2,hb]
  simp only [uF,List.nil_append,if_true,hs]
 have hsame:∀ k' q d,k' ≠ kd→idxOf (k',q) aO=none→Ow w g k' [] q d→Ow w' g2 k' [] q d:=fun k' q d h1 h2 h3=>by
  have hb0:∀ b p q',g.o b= .c6 k' p q'→(p=[]∧q'=q ∨ ∃ i r,p=(q,i) :: r)→g2.o b=g.o b∧w'.heap[b]? = w.heap[b]? :=fun b p q' hb hp=>by
   have hl:=hlt b (by rw [hb];simp)
   refine hkeep b hl ?_
   subst PX
   simp only [Gh.hand,if_neg (Nat.not_le.2 hl),hb]
   rcases hp with ⟨rfl,rfl⟩|⟨i,r,rfl⟩
   simp only [h2]
   simp only [h2]
  refine Ow.move h3 ⟨Td k' q h1 h2,fun i r q'=>U5 k' q i r q' h1 h2,fun i r=>Yd k' q i r h1 h2,fun b hb=> ?_,fun b i r q' hb=> ?_⟩
  have:=hb0 b [] q hb (.inl ⟨rfl,rfl⟩)
  exact ⟨this.1.trans hb,this.2⟩
  have:=hb0 b _ q' hb (.inr ⟨i,r,rfl⟩)
  exact ⟨this.1.trans hb,this.2⟩
 refine ⟨g2,hR.change hA rfl ⟨fun k' r' hk' q c hq=> ?_,fun k' r' hk' hm=> ?_⟩ hK,fun q d hq=> ?_,fun t u ht hu=> ?_,fun k' q j h1 h2=>⟨Ye k' q j h1 h2,fun d h3=>NF k' q j d h1 h2 h3⟩,fun p q=>(by subst oe;simp only [Gh.back,if_true]),Td⟩
 rw [qB] at hk'
 split at hk'
 cases hk'
 rename_i hne
 rw [Option.map_eq_some_iff] at hk'
 obtain ⟨r1,h1,rfl⟩:=hk'
 obtain ⟨c1,h2,rfl⟩:=DM aO rows _ k' r1.row 0 q c hq
 rw [Nat.zero_add]
 cases hi:idxOf (k',q) aO with
 | some j=>
  simp only
  cases hd:rows[j]? with
  | none=>trivial
  | some d=>exact NF k' q j d hne hi hd
 | none=>
  simp only
  have hc:=hR.rt.cell k' r1 h1 q c1 h2
  have gz:=Td k' q hne hi
  cases c1 with
  | ro d=>show Ro w' g2.o d (g2.cv k' [] q);rw [gz];exact Ro.mono hro hc
  | own d=>exact hsame k' q d hne hi hc
  | ref pl=>
   have h3:g.cv k' [] q=g.cv pl.k pl.p pl.q∧(g.cv k' [] q).oneCell'=true:=hc
   simp only [C.kill]
   cases hp:wh aO h.mem kd pl with
   | true=>trivial
   | false=>
    show g2.cv k' [] q=g2.cv pl.k pl.p pl.q∧(g2.cv k' [] q).oneCell'=true
    rw [gz,hA.cv pl hp]
    exact h3
  | dead=>trivial
 rw [qB] at hk'
 split at hk'
 cases hk'
 rename_i hne
 rw [Option.map_eq_some_iff] at hk'
 obtain ⟨r1,h1,rfl⟩:=hk'
 obtain ⟨m1,⟨cs,e,m2⟩,m3⟩:=hR.rt.mem k' r1 h1 hm
 have hl:=kF m2
 rw [Nf k' hne]
 by_cases I4:bx=some k'
 have hm':h.mem=true:=by
  cases hmm:h.mem with
  | true=>rfl
  | false=>rw [hC.Fg hmm] at I4;cases I4
 obtain ⟨kb,r2,e1,e2,e3,e4,e5,e6⟩:=hC.vk hm'
 rw [e1] at I4
 simp only [Option.some.injEq] at I4
 subst I4
 obtain ⟨p1,p2,⟨cs2,ee2,p3⟩,p4⟩:=hG.pinb hm'
 have hKB:h.k=ev:=by simp [Hand.k,hm']
 have hcad:gc.ad ev []=g.ad kb []:=by subst PX;simp [Gh.hand,hKB,e1]
 rw [p1,hcad] at p2 p3 p4
 have qU:gc.o (g.ad kb []).1 ≠ .ro:=by
  subst PX
  simp only [Gh.hand,if_neg (Nat.not_le.2 hl),m1,e1,if_true]
  simp
 refine ⟨?_,⟨cs2,ee2,p3⟩,fun q hq=> ?_⟩
 rw [hnew _ (by have:=hG.size;omega) (.inr qU),p2]
 simp [uF,hKB,e1]
 rw [h1] at e2
 simp only [Option.some.injEq] at e2
 subst e2
 simp only [xh] at hq
 rw [p4 q (by rw [hG.hlen, ← e5];exact hq)]
 rw [Ye kb q q hne (by rw [e4];exact F2 (by omega)),hKB]
 have qU:gc.o (g.ad k' []).1= .ro:=by
  subst PX
  simp only [Gh.hand,if_neg (Nat.not_le.2 hl),m1,if_neg I4]
 obtain ⟨k1,k2⟩:=hkeep _ hl qU
 refine ⟨k1.trans m1,⟨cs,e,k2.trans m2⟩,fun q hq=> ?_⟩
 simp only [xh] at hq
 rw [bw,jA k2]
 have h5:=m3 q hq
 rw [bw] at h5
 rw [h5]
 cases hi:idxOf (k',q) aO with
 | none=>rw [Td k' q hne hi]
 | some j=>
  cases hmm:h.mem with
  | false=>rw [I3 hmm k' q j hne hi]
  | true=>
   exfalso
   obtain ⟨kb,r2,e1,e2,e3,e4,e5,e6⟩:=hC.vk hmm
   have:=ff hi
   rw [e4,fY,List.getElem?_map,Option.map_eq_some_iff] at this
   obtain ⟨x,_,hx⟩:=this
   simp only [Prod.mk.injEq] at hx
   exact I4 (by rw [e1,hx.1])
 refine Ow.move (hG.row q d hq) ⟨?_,fun i r q'=> ?_,fun i r=> ?_,fun b hb=>⟨?_,rfl⟩,fun b i r q' hb=>⟨?_,rfl⟩⟩
 subst oe;simp only [Gh.back,if_true]
 subst oe;simp only [Gh.back,if_true]
 subst oe;simp only [Gh.back,if_true]
 obtain ⟨o1,o2⟩:=hG.old b (.inl (by rw [hb];rfl))
 rw [hnew b o1 o2,hb]
 simp [uF,CI]
 obtain ⟨o1,o2⟩:=hG.old b (.inl (by rw [hb];rfl))
 rw [hnew b o1 o2,hb]
 simp [uF,CI]
 have Ni:∀ p q,g2.cv kd p q=g'.cv kd p q:=fun p q=>by subst oe;simp only [Gh.back,if_true]
 have hCC:∀ c u,XM kd r.row.length c=true→gC w' g' c u→gC w' g2 c u:=fun c u h1 h2=>by
  cases c with
  | ro d=>
   cases d with
   | v x=>
    have h3:Ro w' g'.o (.v x) u:=h2
    cases h3 with
    | v _ hp=>exact Ro.v _ hp
   | _=>cases h1
  | own d=>exact h2
  | ref pl=>
   simp only [XM,Bool.and_eq_true,beq_iff_eq] at h1
   obtain ⟨⟨h3,_⟩,_⟩:=h1
   show u=g2.cv pl.k pl.p pl.q∧u.oneCell'=true
   rw [h3,Ni, ← h3]
   exact h2
  | dead=>trivial
 have hT:∀ t u,Z7 kd r.row.length t=true→eV w' g' t u→eV w' g2 t u:=fun t u h1 h2=>by
  cases h2 with
  | c c u hv=>exact .c c u (hCC c u h1 hv)
  | agg cs us hs hv=>exact .agg cs us hs fun j c u h3 h4=>hCC c u (List.all_eq_true.1 h1 c (List.mem_of_getElem? h3)) (hv j c u h3 h4)
  | ptr pl=>cases h1
  | Ef ql b off hro hcell=>cases h1
  | qV ql b off hro hcell=>cases h1
  | cut pl sz lo hi b off n c hc JL h2 h3=>cases h1
  | b9 ds b off us ho hcell=>cases h1
  | dead u=>exact .dead u
 cases hu with
 | one t u hh=>exact .one t _ (hT t _ ht hh)
 | mj ts us hs hh=>exact .mj ts us hs fun j t u h3 h4=>hT t u (List.all_eq_true.1 ht t (List.mem_of_getElem? h3)) (hh j t u h3 h4)
 | fn f fV us hs hh=>cases ht
end
abbrev zx (rows:List D) (t:TS):List D→nQ→Prop:=fun rs r=>rs=rows∧r=⟨[],fun _=>t⟩
section
variable {P:Program} {w0:World} {g0:Gh} {st:St}
theorem fO.list {aO:List (Nat×Nat)} {row:List D} {kd:Nat} (hc:iE st aO=some row) (hn:aO.Nodup:=by decide) (hk:(aO.all fun s=>s.1 != kd)=true:=by decide) (hkd:kd < 1000000:=by decide):
  fO st ⟨false,row⟩ aO none kd:=⟨hn,hc,hkd,fun s hs=>by simpa using List.all_eq_true.1 hk s hs,by simp⟩
theorem Bp {kb:Nat} {m:Bool}:∀ {uv:List D} (row:List D) (q0:Nat),st.root kb=some ⟨m,uv.map C.own⟩→(∀ (q:Nat) d,row[q]? = some d→uv[q0 + q]? = some d)→iE st ((List.range' q0 row.length).map fun q=>(kb,q))=some row
 | uv,[],q0,h,hh=>rfl
 | uv,d :: row,q0,h,hh=>by
  have h1:st.cellAt ⟨kb,[],q0⟩=some (.own d):=by
   have:=hh 0 d rfl
   simp only [St.cellAt,h,List.getElem?_map]
   rw [show q0 + 0=q0 from rfl] at this
   rw [this]
   rfl
  have h2:=Bp (uv:=uv) row (q0 + 1) h fun q d' hq=>by
   have:=hh (q + 1) d' (by simpa using hq)
   rw [show q0 + 1 + q=q0 + (q + 1) by omega]
   exact this
  simp only [List.length_cons,List.range'_succ,List.map_cons,iE,h1,h2]
theorem fO.bx {kb:Nat} {row:List D} {kd:Nat} (hr:st.root kb=some ⟨true,row.map C.own⟩) (hk:kb ≠ kd:=by decide) (hkd:kd < 1000000:=by decide):
  fO st ⟨true,row⟩ (fY kb row.length) (some kb) kd:=by
 refine ⟨?_, ?_,hkd,fun s hs=> ?_, ?_⟩
 unfold fY List.Nodup
 rw [List.pairwise_map]
 exact List.nodup_range.imp fun hne e=>hne (by simpa using e)
 have:=Bp (uv:=row) row 0 hr (fun q d hq=>by simpa using hq)
 rw [← List.range_eq_range'] at this
 exact this
 unfold fY at hs
 obtain ⟨q,_,rfl⟩:=List.mem_map.1 hs
 exact hk
 exact ⟨kb,_,rfl,hr,rfl,rfl,by simp,hk⟩
end
def jB {α:Type} (a b:List α) (k:Nat):List α:=a.take k ++ b.drop k
section
variable {α:Type} {a b:List α} {k:Nat}
theorem j9:jB a b 0=b:=by simp [jB]
theorem cT (h:a.length=b.length):(jB a b k).length=b.length:=by simp [jB];omega
theorem mr (h:a.length=b.length):(jB a b k)[k]? = b[k]? :=by
 unfold jB
 rcases Nat.lt_or_ge k b.length with hk|hk
 rw [List.getElem?_append_right (by simp;omega),List.getElem?_drop]
 congr 1
 simp
 omega
 rw [List.getElem?_append_right (by simp;omega),List.getElem?_drop,List.getElem?_eq_none (by simp;omega),List.getElem?_eq_none hk]
theorem mu {x: α} (h:a.length=b.length) (hx:a[k]? = some x):(jB a b k).set k x=jB a b (k + 1):=by
 have hk:=(List.getElem?_eq_some_iff.1 hx).1
 unfold jB
 rw [List.set_append_right _ _ (by simp;omega)]
 have h1:k - (a.take k).length=0:=by simp;omega
 rw [h1,List.drop_eq_getElem_cons (by omega),List.set_cons_zero,List.take_add_one,hx]
 simp
theorem mw (h:a.length=b.length) (hk:b.length ≤ k):jB a b k=a:=by
 unfold jB
 rw [List.take_of_length_le (by omega),List.drop_eq_nil_of_le hk,List.append_nil]
end
def Gh.take (g:Gh) (k1 q1 L:Nat):Gh where
 o b:=match g.o b with
  | .c6 k' p q=>if k'=k1 then (match p with
    | []=>if q=q1 then .c6 L [] 0 else .c6 k' [] q
    | (x,i) :: r=>if x=q1 then .c6 L ((0,i) :: r) q else .c6 k' ((x,i) :: r) q)
   else if k'=L then .ro else .c6 k' p q
  | .box k'=>if k'=L then .ro else .box k'
  | t=>t
 ad k' p:=if k'=L then (match p with| []=>(0,0)|(_,i) :: r=>g.ad k1 ((q1,i) :: r)) else g.ad k' p
 cv k' p q:=if k'=L then (match p with| []=>g.cv k1 [] q1|(_,i) :: r=>g.cv k1 ((q1,i) :: r) q) else g.cv k' p q
def St.take (st:St) (k1 q1 L:Nat):Option St:=
 match st.root k1 with
 | some r=>match r.row[q1]? with
  | some (.own (.sl sz ds))=>some ((st.fresh L ⟨false,[.own (.sl sz ds)]⟩).cw k1 ⟨r.mem,(r.row.map (C.kill fun pl=>pl.k == L)).set q1 (.ref ⟨L,[],0⟩)⟩)
  | _=>none
 | none=>none
section
variable {P:Program} {w0:World} {g0:Gh} {st:St} {a:Act} {w:World} {g:Gh}
theorem Rel.take (hR:Rel w0 g0 st a w g) {k1 q1 L:Nat} {bJ:St} (ht:st.take k1 q1 L=some bJ) (hne:k1 ≠ L) (hL:L < 1000000):∃ g1,Rel w0 g0 bJ a w g1:=by
 unfold St.take at ht
 split at ht
 rename_i r hk
 split at ht
 rename_i sz ds hq
 simp only [Option.some.injEq] at ht
 subst ht
 have Al:cu ≠ L:=by simp only [cu];omega
 have PG:ev ≠ L:=by simp only [ev];omega
 refine ⟨g.take k1 q1 L, ?_⟩
 have hro:∀ b,g.o b= .ro→(g.take k1 q1 L).o b= .ro∧w.heap[b]? = w.heap[b]? :=fun b hb=>⟨by simp [Gh.take,hb],rfl⟩
 have gz:∀ k' p q,k' ≠ L→(g.take k1 q1 L).cv k' p q=g.cv k' p q:=fun k' p q h=>by simp only [Gh.take,if_neg h]
 have had:∀ k' p,k' ≠ L→(g.take k1 q1 L).ad k' p=g.ad k' p:=fun k' p h=>by simp only [Gh.take,if_neg h]
 have hA:qo w g w (g.take k1 q1 L) (fun pl=>pl.k == L) (fun pl=>pl.k == L):=⟨hro,fun pl hp=>gz _ _ _ (by simpa using hp),fun pl hp=>had _ _ (by simpa using hp)⟩
 have XN:∀ k' q d,k' ≠ L→(k'=k1→q ≠ q1)→Ow w g k' [] q d→Ow w (g.take k1 q1 L) k' [] q d:=fun k' q d h1 h2 h3=>by
  refine Ow.move h3 ⟨gz _ _ _ h1,fun i r q'=>gz _ _ _ h1,fun i r=>had _ _ h1,fun b hb=>⟨?_,rfl⟩,fun b i r q' hb=>⟨?_,rfl⟩⟩
  simp only [Gh.take,hb]
  by_cases e:k'=k1
  rw [if_pos e,if_neg (h2 e)]
  rw [if_neg e,if_neg h1]
  simp only [Gh.take,hb,List.nil_append]
  by_cases e:k'=k1
  rw [if_pos e,if_neg (h2 e)]
  rw [if_neg e,if_neg h1]
 have hcell:∀ k' q c,k' ≠ L→(k'=k1→q ≠ q1)→m6 w g k' q c→m6 w (g.take k1 q1 L) k' q (c.kill fun pl=>pl.k == L):=fun k' q c h1 h2 h3=>by
  cases c with
  | ro d=>show Ro w _ d _;rw [gz _ _ _ h1];exact Ro.mono hro h3
  | own d=>exact XN k' q d h1 h2 h3
  | ref pl=>
   have h4:g.cv k' [] q=g.cv pl.k pl.p pl.q∧(g.cv k' [] q).oneCell'=true:=h3
   simp only [C.kill]
   by_cases e:pl.k=L
   rw [if_pos (by simpa using e)];trivial
   rw [if_neg (by simpa using e)]
   show (g.take k1 q1 L).cv k' [] q=(g.take k1 q1 L).cv pl.k pl.p pl.q∧((g.take k1 q1 L).cv k' [] q).oneCell'=true
   rw [gz _ _ _ h1,gz _ _ _ e]
   exact h4
  | dead=>trivial
 have hO:Ow w g k1 [] q1 (.sl sz ds):=hR.rt.cell k1 r hk q1 _ hq
 have hone:(g.cv k1 [] q1).oneCell'=true:=by
  cases hO with
  | nil _ _ _ he=>rw [he];rfl
  | sl _ _ _ _ _ _ _ _ _ _ he=>rw [he];rfl
 have gT:∀ k' r',((st.fresh L ⟨false,[.own (.sl sz ds)]⟩).cw k1 ⟨r.mem,(r.row.map (C.kill fun pl=>pl.k == L)).set q1 (.ref ⟨L,[],0⟩)⟩).root k'=some r'→
   (k'=k1∧r'=⟨r.mem,(r.row.map (C.kill fun pl=>pl.k == L)).set q1 (.ref ⟨L,[],0⟩)⟩) ∨ (k'=L∧r'=⟨false,[.own (.sl sz ds)]⟩) ∨ (k' ≠ k1∧k' ≠ L∧∃ r1,st.root k'=some r1∧r'=r1.kill fun pl=>pl.k == L):=fun k' r' h=>by
  rw [St.dA] at h
  split at h
  rename_i e
  simp only [Option.some.injEq] at h
  exact .inl ⟨e,h.symm⟩
  rename_i e
  rw [St.fresh,St.dA] at h
  split at h
  rename_i e2
  simp only [Option.some.injEq] at h
  exact .inr (.inl ⟨e2,h.symm⟩)
  rename_i e2
  rw [St.j5,Option.map_eq_some_iff] at h
  obtain ⟨r1,h1,h2⟩:=h
  exact .inr (.inr ⟨e,e2,r1,h1,h2.symm⟩)
 refine hR.change hA rfl ⟨fun k' r' hk' q c hc=> ?_,fun k' r' hk' hm=> ?_⟩ ?_
 rcases gT k' r' hk' with ⟨rfl,rfl⟩|⟨rfl,rfl⟩|⟨h1,h2,r1,h3,rfl⟩
 rw [List.getElem?_set] at hc
 by_cases e:q1=q
 subst e
 rw [if_pos rfl] at hc
 split at hc
 simp only [Option.some.injEq] at hc
 subst hc
 show (g.take k' q1 L).cv k' [] q1=(g.take k' q1 L).cv L [] 0∧((g.take k' q1 L).cv k' [] q1).oneCell'=true
 rw [gz _ _ _ hne]
 exact ⟨by simp [Gh.take],hone⟩
 cases hc
 rw [if_neg e,List.getElem?_map,Option.map_eq_some_iff] at hc
 obtain ⟨c1,h4,rfl⟩:=hc
 exact hcell k' q c1 hne (fun _=>fun h=>e h.symm) (hR.rt.cell k' r hk q c1 h4)
 cases q with
 | succ q=>simp at hc
 | zero=>
  simp only [List.getElem?_cons_zero,Option.some.injEq] at hc
  subst hc
  refine Ow.move hO ⟨by simp [Gh.take],fun i r q'=>by simp [Gh.take],fun i r=>by simp [Gh.take],fun b hb=>⟨by simp [Gh.take,hb],rfl⟩,fun b i r q' hb=>⟨by simp [Gh.take,hb],rfl⟩⟩
 simp only [Rt.kill,List.getElem?_map,Option.map_eq_some_iff] at hc
 obtain ⟨c1,h4,rfl⟩:=hc
 exact hcell k' q c1 h2 (fun e=>absurd e h1) (hR.rt.cell k' r1 h3 q c1 h4)
 have hmem:∀ k' r1,k' ≠ L→st.root k'=some r1→r1.mem=true→(g.take k1 q1 L).o ((g.take k1 q1 L).ad k' []).1= .box k'∧(∃ cs e,w.heap[((g.take k1 q1 L).ad k' []).1]? = some (.cells cs e (0,0)))∧
   ∀ q,q < r1.row.length→w.cell? (bw ((g.take k1 q1 L).ad k' []) q)=some ((g.take k1 q1 L).cv k' [] q):=fun k' r1 h1 h2 h3=>by
  obtain ⟨m1,m2,m3⟩:=hR.rt.mem k' r1 h2 h3
  rw [had _ _ h1]
  refine ⟨by simp only [Gh.take,m1,if_neg h1],m2,fun q hq=> ?_⟩
  rw [gz _ _ _ h1]
  exact m3 q hq
 rcases gT k' r' hk' with ⟨rfl,rfl⟩|⟨rfl,rfl⟩|⟨h1,h2,r1,h3,rfl⟩
 obtain ⟨m1,m2,m3⟩:=hmem k' r hne hk hm
 exact ⟨m1,m2,fun q hq=>m3 q (by simpa using hq)⟩
 cases hm
 obtain ⟨m1,m2,m3⟩:=hmem k' r1 h2 h3 hm
 exact ⟨m1,m2,fun q hq=>m3 q (by simpa [Rt.kill] using hq)⟩
 have yC:=hR.ks
 refine ⟨yC.os,yC.tape,yC.output,yC.size,fun b hb hx=> ?_,fun b hb=> ?_,fun b hb hx=> ?_,⟨fun q=> ?_, ?_⟩,fun b hb=> ?_⟩
 obtain ⟨h1,h2⟩:=yC.block b hb hx
 refine ⟨h1, ?_⟩
 rcases hx with hx|hx <;> simp [Gh.take,h2,hx]
 simp [Gh.take,yC.fresh b hb]
 refine yC.old b hb ?_
 revert hx
 simp only [Gh.take]
 split
 split
 split <;> split <;> simp
 split <;> simp
 split <;> simp
 exact fun h=>h
 rw [gz _ _ _ Al];exact yC.v8.1 q
 rw [had _ _ PG];exact yC.v8.2
 revert hb
 simp only [Gh.take]
 split
 split
 split <;> split <;> simp
 split <;> simp
 rename_i k' hb0
 split
 simp
 intro hb
 simp only [Tag.box.injEq] at hb
 subst hb
 exact yC.iS b hb0
 rename_i h1 h2
 intro hb
 exact yC.iS b hb
 cases ht
 cases ht
end
section
variable {P:Program} {w0:World} {g0:Gh} {st:St}
theorem JY {w:World} {g:Gh} {k:Nat} (gz:∀ q,g.cv k [] q= .slice none 0 0):∀ (row:List D) (j:Nat),row.all tR=true→RC w g (we k j row) (row.map zeroV)
 | [],j,_=>⟨rfl,fun i c u hc=>by simp [we] at hc⟩
 | d :: row,j,h=>by
  simp only [List.all_cons,Bool.and_eq_true] at h
  have ih:=JY (w:=w) gz row (xg j d) h.2
  refine ⟨by simp [we,ih.1],fun i c u hc hu=> ?_⟩
  cases i with
  | succ i=>exact ih.2 i c u (by simpa [we] using hc) (by simpa using hu)
  | zero=>
   simp only [we,List.getElem?_cons_zero,List.map_cons,Option.some.injEq] at hc hu
   subst hc;subst hu
   cases d with
   | v x=>exact Ro.v x h.1
   | sl sz ds=>
    cases ds with
    | nil=>exact ⟨(gz j).symm,rfl⟩
    | cons _ _=>cases h.1
   | _=>cases h.1
theorem gJ.buildN {o:Oper} {Q:St→Prop} {t:TypeId} {parts:List (Nat×Operand)} (ho:o.op= .build t parts.toArray) {k:Nat} (hd:o.dst=some k) {fs:Array Field} (hu:P.underlying t=some (.struct fs))
  {it:TypeInfo} (hi:P.info? t=some it) {z:Value} (hz:it.zero=some z) {row:List D} (hrow:zH P 6 t=some row) (hv:z.cells.toList=row.map zeroV) (hok:row.all tR=true)
  {place:List (Nat×Nat)} (oQ:fs.toList.mapM (fun f=>(P.info? f.type).map fun i=>(f.offset,i.size))=some place) {row':List D} (hr:row=row')
  {pc:List (Nat×List C)} (hp:tU (st.fresh k ⟨false,(row'.filter zw).map C.own⟩) parts=some pc) {cs:List C} (hf:DL place (we k 0 row') pc=some cs)
  (hq:Q ((st.fresh k ⟨false,(row'.filter zw).map C.own⟩).put (some k) (.one (.agg cs)))) (hkp:k < 1000000:=by decide):gJ P w0 g0 o st Q:=fun a w g hR K Q' hK=>by
 subst hr
 have Al:cu ≠ k:=by simp only [cu];omega
 let g':Gh:={ g with cv:=fun k'=>if k'=k then fun _ _=> .slice none 0 0 else g.cv k' }
 have hS:oN w g w g' (· ≠ k):=⟨fun b hb=>⟨hb,rfl⟩,fun _ _ b _=>⟨rfl,rfl⟩,fun _ _=>rfl,fun k' hk'=>if_neg hk'⟩
 have iU:Rel w0 g0 (st.fresh k ⟨false,(row.filter zw).map C.own⟩) a w g':=by
  refine hR.grow hS ⟨hR.ks.os,hR.ks.tape,hR.ks.output,hR.ks.size,hR.ks.block,hR.ks.fresh,hR.ks.old,⟨fun q=>(by simp only [g',if_neg Al];exact hR.ks.v8.1 q),hR.ks.v8.2⟩,hR.ks.iS⟩ (fun q c hq=> ?_) (fun hm=>by cases hm)
  rw [List.getElem?_map,Option.map_eq_some_iff] at hq
  obtain ⟨d,hq,rfl⟩:=hq
  have hm:=List.mem_filter.1 (List.mem_of_getElem? hq)
  have hk:=List.all_eq_true.1 hok d hm.1
  cases d with
  | sl sz ds=>
   cases ds with
   | nil=>exact Ow.nil [] q sz (by simp [g'])
   | cons _ _=>cases hk
  | v x=>cases hm.2
  | _=>cases hk
 have hz0:RC w g' (we k 0 row) z.cells.toList:=by
  rw [hv]
  exact JY (fun q=>by simp [g']) row 0 hok
 obtain ⟨us,e1,e2⟩:=CH iU hp hf hz0
 have hb:P.built t (parts.map fun p=>(p.1,a.eval p.2))=some us:=by
  unfold Program.built
  simp only [hi,hu,hz,oQ]
  exact e1
 have hrun:=run_build (P:=P) w t (parts.toArray.map fun p=>(p.1,a.eval p.2)) us (by simpa using hb)
 simp only [List.map_toArray] at hrun
 have hrun2:(execOp a.eval o).run P w= .ok (.value (.agg us)) w:=by simp [execOp,ho,hrun]
 unfold Oper.wp
 rw [hrun2]
 refine hK _ _ _ g' hq ?_
 rw [hd]
 exact iU.put (.one _ _ (.agg _ us (by simpa using e2.1) fun j c u hc hu=>e2.2 j c u hc (by simpa using hu))) (some k)
theorem gJ.U6 {o:Oper} {Q:St→Prop} {x y:Operand} {t t2 e e2:TypeId} (ho:o.op= .call { callee:= .builtin .append,args:= #[x,y],argTypes:= #[t,t2] }) {k:Nat} (hd:o.dst=some k) {k1 k2:Nat} (hx:T.cH 0 st x=some (.one (.c (.ref ⟨k1,[],0⟩))))
  (hy:T.cH 0 st y=some (.one (.c (.ref ⟨k2,[],0⟩)))) {sz:Nat} {ds ns:List D} (h1:st.root k1=some ⟨false,[.own (.sl sz ds)]⟩) (h2:st.root k2=some ⟨false,[.own (.sl sz ns)]⟩) (hne:k2 ≠ k1)
  (hnh:∀ d ∈ ns,∀ c ∈ d.row,c ≠ .hole) (ht:P.underlying t=some (.slice e)) (JN:P.underlying t2=some (.slice e2)) {i:TypeInfo} {z:Value} (hi:P.info? e=some i) (hz:i.zero=some z)
  (hsz:i.size=sz) (hby:Nat.ble i.bytes 1048576=true) (hzs:z.cells.size=sz) (hlen:ds.length + ns.length ≤ 134217728)
  (hq:Q ((st.renew [k,k1,k2] k ⟨false,[.own (.sl sz (ds ++ ns))]⟩).put (some k) (.one (.c (.ref ⟨k,[],0⟩))))) (hkp:k < 1000000:=by decide):gJ P w0 g0 o st Q:=by
 have hb:=Nat.le_of_ble_eq_true hby
 refine gJ.append ho hd hx hy h1 h2 hne hnh ht JN hi hz hsz rfl hzs (by simp only [most];omega) ?_ hq hkp
 calc (ds.length + ns.length) * i.bytes ≤ 134217728 * i.bytes:=Nat.mul_le_mul_right _ hlen
  _ ≤ 140737488355328:=by omega
end
abbrev S (s:ByteArray):TS:=V (.string s)
section
variable {P:Program} {w0:World} {g0:Gh} {st:St} {o:Oper} {ty ty':TypeId} {x y z:Operand}
theorem eA.addS {a b:ByteArray} (ho:o.op= .binOp .add ty x y ty') (hx:T.cH 0 st x=some (S a)) (hy:T.cH 0 st y=some (S b)) (hl:a.size + b.size ≤ 9223372036854775807):eA P w0 g0 o st (S (a ++ b)):=
 eA.bin ho hx hy rfl (fun w=>by
  have hm:IntKind.i64.max=9223372036854775807:=by decide
  have:¬ (((a.size + b.size:Nat):Int) > IntKind.i64.max):=by rw [hm];omega
  rw [binOp_string_add]
  simp only [Op.stringOp,if_neg this]
  rfl) rfl
theorem eA.rem {k:IntKind} {a b:Int} (ho:o.op= .binOp .rem ty x y ty') (hx:T.cH 0 st x=some (V (.int k a))) (hy:T.cH 0 st y=some (V (.int k b))) (hb:b ≠ 0):eA P w0 g0 o st (V (.int k (a.tmod b))):=
 eA.bin ho hx hy rfl (fun w=>by rw [binOp_rem];simp [Op.intDiv,hb]) rfl
theorem eA.quo {a b:Int} (ho:o.op= .binOp .quo ty x y ty') (hx:T.cH 0 st x=some (I a)) (hy:T.cH 0 st y=some (I b)) (hb:b ≠ 0) (h1: -9223372036854775808 ≤ a.tdiv b) (h2:a.tdiv b ≤ 9223372036854775807):eA P w0 g0 o st (I (a.tdiv b)):=
 eA.bin ho hx hy rfl (fun w=>by rw [binOp_quo];simp [Op.intDiv,hb,wrap_i64 h1 h2]) rfl
theorem eA.mul {a b:Int} (ho:o.op= .binOp .mul ty x y ty') (hx:T.cH 0 st x=some (I a)) (hy:T.cH 0 st y=some (I b)) (h1: -9223372036854775808 ≤ a * b) (h2:a * b ≤ 9223372036854775807):eA P w0 g0 o st (I (a * b)):=
 eA.bin ho hx hy rfl (fun w=>by rw [binOp_mul];simp only [Op.intArith];rw [wrap_i64 h1 h2];rfl) rfl
theorem eA.neg {a:Int} (ho:o.op= .unOp .neg ty x) (hx:T.cH 0 st x=some (I a)) (h1: -9223372036854775807 ≤ a) (h2:a ≤ 9223372036854775807):eA P w0 g0 o st (I (-a)):=
 fun s w g hR=>⟨.int .i64 (-a),fun w' _=>by
  have h:IntKind.i64.wrap (-a)= -a:=wrap_i64 (by omega) (by omega)
  simp [execOp,ho,hR.val hx,Op.unary,Op.intArith,h],Aj rfl⟩
theorem eA.conv {src dst:TypeId} {k k':IntKind} {a b:Int} (ho:o.op= .convert src dst x) (hx:T.cH 0 st x=some (V (.int k a))) (hs:(P.underlying src).isSome=true) (hk:P.intKind dst=k')
  (hd:P.underlying dst=some (.int (P.intKind dst))) (hb:k'.wrap a=b):eA P w0 g0 o st (V (.int k' b)):=
 fun s w g hR=>⟨.int k' b,fun w' _=>by simp [execOp,ho,hR.val hx,run_convert_int (P:=P) w' src dst k a hs hd,hk,hb],Aj rfl⟩
theorem eA.sliceS {s:ByteArray} {lo hi:Operand} {i j:Int} (ho:o.op= .slice ty x (some lo) (some hi) none) (hx:T.cH 0 st x=some (S s)) (hu:P.underlying ty=some .string) (hlo:T.cH 0 st lo=some (I i)) (hhi:T.cH 0 st hi=some (I j))
  (h0:0 ≤ i) (h1:i ≤ j) (h2:j ≤ s.size):eA P w0 g0 o st (S (s.extract i.toNat j.toNat)):=
 fun a w g hR=>⟨.string (s.extract i.toNat j.toNat),fun w' _=>by
  obtain ⟨m,rfl⟩:=Int.eq_ofNat_of_zero_le h0
  obtain ⟨n,rfl⟩:=Int.eq_ofNat_of_zero_le (show 0 ≤ j by omega)
  have h3:(n:Int) ≤ s.size:=h2
  have h4:m ≤ n:=by omega
  have h5:n ≤ s.size:=by omega
  simp [execOp,ho,hR.val hx,hR.val hlo,hR.val hhi,Instr.sliceAt,Instr.slice,run_underlying hu,Instr.sliceBounds,Instr.sliceBound,asIntOf,h3,h4,h5],Aj rfl⟩
end
def I5 (k1 q0 i0 j k:Nat):List (Nat×Nat)→Nat→Bool
 | [],_=>false
 | [(a,b)],q=>k == k1 && a == q0 && b == i0 && q == j
 | (a,b) :: (c,_) :: _,_=>k == k1 && a == q0 && b == i0 && c == j
def Gh.oT (g:Gh) (n k1 q0 i0 j:Nat):Gh where
 o b:=if n ≤ b then .outer else match g.o b with
  | .c6 k' p q=>if I5 k1 q0 i0 j k' p q then (match p with|_ :: (_,i) :: r=> .c6 cu ((0,i) :: r) q|_=> .c6 cu [] 0) else .ro
  | _=> .ro
 ad k p:=if k=cu then (match p with|(_,i) :: r=>g.ad k1 ((q0,i0) :: (j,i) :: r)| []=>(0,0)) else g.ad k p
 cv k p q:=if k=cu then (match p with|(_,i) :: r=>g.cv k1 ((q0,i0) :: (j,i) :: r) q| []=>g.cv k1 [(q0,i0)] j) else g.cv k p q
def Gh.uG (g gc g':Gh) (n n' k1 q0 i0 j:Nat):Gh where
 o b:=if b < n∧(gc.o b).Ya=true then g.o b else if b < n' then (match g'.o b with
   | .c6 k' p q=>if k'=cu then (match p with|(_,i) :: r=> .c6 k1 ((q0,i0) :: (j,i) :: r) q| []=> .c6 k1 [(q0,i0)] j) else .ro
   | _=> .ro) else .outer
 ad k p:=match p with
  | (a,b) :: (c,i) :: r=>if k=k1∧a=q0∧b=i0∧c=j then g'.ad cu ((0,i) :: r) else g.ad k p
  | _=>g.ad k p
 cv k p q:=match p with
  | (a,b) :: (c,i) :: r=>if k=k1∧a=q0∧b=i0∧c=j then g'.cv cu ((0,i) :: r) q else g.cv k p q
  | _=>g.cv k p q
theorem PY {k1 q0 i0 j k:Nat} {p:List (Nat×Nat)} {q:Nat} (h:I5 k1 q0 i0 j k p q=true):k=k1∧Un [(q0,i0)] j p q:=by
 match p,h with
 | [(a,b)],h=>
  simp only [I5,Bool.and_eq_true,beq_iff_eq] at h
  obtain ⟨⟨⟨rfl,rfl⟩,rfl⟩,rfl⟩:=h
  exact ⟨rfl, .inl ⟨rfl,rfl⟩⟩
 | (a,b) :: (c,i) :: r,h=>
  simp only [I5,Bool.and_eq_true,beq_iff_eq] at h
  obtain ⟨⟨⟨rfl,rfl⟩,rfl⟩,rfl⟩:=h
  exact ⟨rfl, .inr ⟨i,r,rfl⟩⟩
theorem Te {e c:D} {j:Nat} (hj:j < e.row.length) (hc:c.row=[c]):(e.rf (e.row.set j c)).row=e.row.set j c:=by
 cases e with
 | st ds=>rfl
 | _=>
  simp only [D.row,List.length_cons,List.length_nil] at hj
  obtain rfl:j=0:=by omega
  simp only [D.row,List.set_cons_zero,D.rf]
  exact hc
def St.nest (st:St) (k1 q0 i0 j:Nat) (d:D):Option St:=
 match st.root k1 with
 | some r=>match r.row[q0]? with
  | some (.own (.sl sz ds))=>match ds[i0]? with
   | some e=>some ((st.kill (ez k1 [(q0,i0)] j) (wY k1 [(q0,i0)] j)).cw k1 ⟨r.mem,(r.row.map (C.kill (ez k1 [(q0,i0)] j))).set q0 (.own (.sl sz (ds.set i0 (e.rf (e.row.set j d)))))⟩)
   | none=>none
  | _=>none
 | none=>none
section
variable {P:Program} {w0:World} {g0:Gh} {st:St} {a:Act} {w:World} {g:Gh} {k1 q0 i0 j sz Rw:Nat} {rt:Rt} {ds PZ:List D} {e:D}
theorem Rel.Tf (hR:Rel w0 g0 st a w g) {b:Nat} (hb:g.o b ≠ .outer):b < w.heap.size:=by
 rcases Nat.lt_or_ge b w.heap.size with h|h
 exact h
 exact absurd (hR.ks.fresh b h) hb
theorem Rel.nestAt (hR:Rel w0 g0 st a w g) (hk:st.root k1=some rt) (hq:rt.row[q0]? = some (.own (.sl sz ds))) (he:ds[i0]? = some e) (hj:e.row[j]? = some (.sl Rw PZ)):Ow w g k1 [(q0,i0)] j (.sl Rw PZ):=by
 have hO:Ow w g k1 [] q0 (.sl sz ds):=hR.rt.cell k1 rt hk q0 _ hq
 cases hO with
 | nil _ _ _ _=>simp at he
 | sl _ _ _ _ b off n c cs t hc hn hm hnc v7 ho hb hfit hrow had hcell hel=>exact hel i0 e he j _ hj
theorem Rel.Yf (hR:Rel w0 g0 st a w g) (hO:Ow w g k1 [(q0,i0)] j (.sl Rw PZ)):Handed w (g.oT w.heap.size k1 q0 i0 j) ⟨false,[.sl Rw PZ]⟩:=by
 refine ⟨fun b hb=> ?_,fun b hb=> ?_,fun b=> ?_,fun q d hq=> ?_,fun h=>by cases h⟩
 simp only [Gh.oT,if_pos hb]
 simp only [Gh.oT,if_neg (Nat.not_le.2 hb)]
 split
 split
 split <;> exact .inr rfl
 exact .inl rfl
 exact .inl rfl
 simp only [Gh.oT]
 split
 simp
 split
 split
 split <;> simp
 simp
 simp
 cases q with
 | succ q=>simp at hq
 | zero=>
  simp only [List.getElem?_cons_zero,Option.some.injEq] at hq
  subst hq
  show Ow w _ cu [] 0 _
  refine Ow.move hO ⟨by simp [Gh.oT],fun i r q'=>by simp [Gh.oT],fun i r=>by simp [Gh.oT],fun b hb=>⟨?_,rfl⟩,fun b i r q' hb=>⟨?_,rfl⟩⟩
  have:=hR.Tf (b:=b) (by rw [hb];simp)
  simp [Gh.oT,Nat.not_le.2 this,hb,I5]
  have:=hR.Tf (b:=b) (by rw [hb];simp)
  simp [Gh.oT,Nat.not_le.2 this,hb,I5]
theorem Rel.uG (hR:Rel w0 g0 st a w g) (hk:st.root k1=some rt) (hq:rt.row[q0]? = some (.own (.sl sz ds))) (he:ds[i0]? = some e) (hj:e.row[j]? = some (.sl Rw PZ)) {k Pw:Nat} {Px:List D} {r:nQ} {v:Value} {w':World} {g':Gh}
  (hG:ol w (g.oT w.heap.size k1 q0 i0 j) ⟨false,[.sl Rw PZ]⟩ k [.sl Pw Px] r v w' g') {bJ:St} (hst:st.nest k1 q0 i0 j (.sl Pw Px)=some bJ):∃ g2,Rel w0 g0 bJ a w' g2:=by
 generalize PX:g.oT w.heap.size k1 q0 i0 j=gc at hG
 refine ⟨g.uG gc g' w.heap.size w'.heap.size k1 q0 i0 j, ?_⟩
 generalize oe:g.uG gc g' w.heap.size w'.heap.size k1 q0 i0 j=g2
 have Tg:∀ b,b < w.heap.size→gc.o b= .ro→w'.heap[b]? = w.heap[b]? ∧g2.o b=g.o b:=fun b hb h=>⟨hG.block b hb h,by
  subst oe
  simp only [Gh.uG,h]
  rw [if_pos ⟨hb,rfl⟩]⟩
 have hplain:∀ b,b < w.heap.size→(∀ k' p q,g.o b= .c6 k' p q→I5 k1 q0 i0 j k' p q=false)→gc.o b= .ro:=fun b hb h=>by
  subst PX
  simp only [Gh.oT,if_neg (Nat.not_le.2 hb)]
  split
  ·rename_i k' p q iz
   rw [if_neg (by rw [h k' p q iz];simp)]
  ·rfl
 have gz:∀ k' p q,I5 k1 q0 i0 j k' p q=false→g2.cv k' p q=g.cv k' p q:=fun k' p q h=>by
  subst oe
  match p,h with
  | [],_=>rfl
  | [_],_=>rfl
  | (a,b) :: (c,i) :: r,h=>
   simp only [Gh.uG]
   rw [if_neg]
   rintro ⟨rfl,rfl,rfl,rfl⟩
   simp [I5] at h
 have had:∀ k' p,(∀ q,I5 k1 q0 i0 j k' p q=false ∨ ∃ x,p=[x])→g2.ad k' p=g.ad k' p:=fun k' p h=>by
  subst oe
  match p,h with
  | [],_=>rfl
  | [_],_=>rfl
  | (a,b) :: (c,i) :: r,h=>
   simp only [Gh.uG]
   rw [if_neg]
   rintro ⟨rfl,rfl,rfl,rfl⟩
   rcases h 0 with h|⟨x,h⟩
   ·simp [I5] at h
   ·simp at h
 have hdis:∀ k' p q d,(∀ i r q',I5 k1 q0 i0 j k' (p ++ (q,i) :: r) q'=false)→I5 k1 q0 i0 j k' p q=false→(∀ i r,k'=k1→p ++ (q,i) :: r ≠ [(q0,i0)] ∨ True)→Ow w g k' p q d→Ow w' g2 k' p q d:=fun k' p q d h1 h2 _ h3=>by
  refine Ow.move h3 ⟨gz _ _ _ h2,fun i r q'=>gz _ _ _ (h1 i r q'),fun i r=>had _ _ fun q'=> .inl (h1 i r q'),fun b hb=> ?_,fun b i r q' hb=> ?_⟩
  ·have hlt:=hR.Tf (b:=b) (by rw [hb];simp)
   have:=Tg b hlt (hplain b hlt fun k2 p2 q2 e2=>by rw [hb] at e2;cases e2;exact h2)
   exact ⟨by rw [this.2];exact hb,this.1⟩
  ·have hlt:=hR.Tf (b:=b) (by rw [hb];simp)
   have:=Tg b hlt (hplain b hlt fun k2 p2 q2 e2=>by rw [hb] at e2;cases e2;exact h1 i r q')
   exact ⟨by rw [this.2];exact hb,this.1⟩
 have U5:∀ k' x q,g2.cv k' [x] q=g.cv k' [x] q:=fun k' x q=>by subst oe;rfl
 have Yd:∀ k' x,g2.ad k' [x]=g.ad k' [x]:=fun k' x=>by subst oe;rfl
 have hrow0:Ow w' g' cu [] 0 (.sl Pw Px):=hG.hrow 0 _ rfl
 have I3:g'.cv cu [] 0=g.cv k1 [(q0,i0)] j:=by rw [hG.pinl rfl 0 (by simp)];subst PX;simp [Gh.oT]
 have NF:∀ b p q,g'.o b= .c6 cu p q→g2.o b=(match p with|(_,i) :: r=> .c6 k1 ((q0,i0) :: (j,i) :: r) q| []=> .c6 k1 [(q0,i0)] j):=fun b p q hb=>by
  obtain ⟨h1,h2⟩:=hG.old b (.inr (by rw [hb];rfl))
  subst oe
  simp only [Gh.uG,hb,if_true,if_pos h1]
  rw [if_neg]
  rintro ⟨h3,h4⟩
  rcases h2 with h2|h2
  ·omega
  ·exact h2 (F1.1 h4)
 have hN:Ow w' g2 k1 [(q0,i0)] j (.sl Pw Px):=by
  refine Ow.move hrow0 ⟨by rw [U5,I3],fun i r q'=>by subst oe;simp [Gh.uG],fun i r=>by subst oe;simp [Gh.uG],fun b hb=>⟨?_,rfl⟩,fun b i r q' hb=>⟨?_,rfl⟩⟩
  ·rw [NF b _ _ hb]
  ·rw [NF b _ _ hb];rfl
 have hO:Ow w g k1 [] q0 (.sl sz ds):=hR.rt.cell k1 rt hk q0 _ hq
 have hjl:j < e.row.length:=(List.getElem?_eq_some_iff.1 hj).1
 have hO':Ow w' g2 k1 [] q0 (.sl sz (ds.set i0 (e.rf (e.row.set j (.sl Pw Px))))):=by
  have hrr:=Te (e:=e) (c:= .sl Pw Px) hjl rfl
  cases hO with
  | nil _ _ _ _=>simp at he
  | sl _ _ _ _ b off n c cs t hc hn hm hnc v7 ho hb hfit hrow had2 hcell hel=>
   have hlt:=kF hb
   have hs:=Tg b hlt (hplain b hlt fun k2 p2 q2 e2=>by rw [ho] at e2;cases e2;rfl)
   refine .sl [] q0 sz _ b off n c cs t (by rw [gz _ _ _ rfl];exact hc) (by simpa using hn) hm hnc v7 (by rw [hs.2];exact ho) (by rw [hs.1];exact hb) hfit (fun d hd=> ?_) (fun i hi=> ?_) (fun i j' hi hj'=> ?_) (fun i d hd j' c' hj'=> ?_)
   ·rcases List.mem_or_eq_of_mem_set hd with h|h
    ·exact hrow d h
    ·rw [h,hrr,List.length_set];exact hrow e (List.mem_of_getElem? he)
   ·show g2.ad k1 [(q0,i)]=_
    rw [Yd];exact had2 i hi
   ·show _=some (g2.cv k1 [(q0,i)] j')
    rw [jA hs.1,U5];exact hcell i j' hi hj'
   ·show Ow w' g2 k1 [(q0,i)] j' c'
    by_cases hi:i=i0
    ·subst hi
     rw [List.getElem?_set_self (List.getElem?_eq_some_iff.1 he).1] at hd
     simp only [Option.some.injEq] at hd
     subst hd
     rw [hrr] at hj'
     by_cases hjj:j'=j
     ·subst hjj
      rw [List.getElem?_set_self hjl] at hj'
      simp only [Option.some.injEq] at hj'
      subst hj'
      exact hN
     ·rw [List.getElem?_set_ne (Ne.symm hjj)] at hj'
      exact hdis k1 [(q0,i)] j' c' (fun i2 r q'=>by simp [I5,hjj]) (by simp [I5,hjj]) (fun _ _ _=> .inr trivial) (hel i e he j' c' hj')
    ·rw [List.getElem?_set_ne (Ne.symm hi)] at hd
     exact hdis k1 [(q0,i)] j' c' (fun i2 r q'=>by simp [I5,hi]) (by simp [I5,hi]) (fun _ _ _=> .inr trivial) (hel i d hd j' c' hj')
 have hA:qo w g w' g2 (ez k1 [(q0,i0)] j) (wY k1 [(q0,i0)] j):=by
  refine ⟨fun b hb=> ?_,fun pl hp=> ?_,fun pl hp=> ?_⟩
  ·have hlt:=hR.Tf (b:=b) (by rw [hb];simp)
   have:=Tg b hlt (hplain b hlt fun k2 p2 q2 e2=>by rw [hb] at e2;cases e2)
   exact ⟨by rw [this.2];exact hb,this.1⟩
  ·refine gz _ _ _ ?_
   cases hu:I5 k1 q0 i0 j pl.k pl.p pl.q with
   | false=>rfl
   | true=>exact absurd (PY hu) (Bd hp)
  ·refine had _ _ fun q=> ?_
   cases hu:I5 k1 q0 i0 j pl.k pl.p q with
   | false=>exact .inl rfl
   | true=>
    obtain ⟨h1,h2⟩:=PY hu
    rcases h2 with ⟨h2,_⟩|⟨i,r,h2⟩
    ·exact .inr ⟨_,h2⟩
    ·exact absurd ⟨h1,i,r,h2⟩ (Rg hp)
 have U7:∀ k' q c,(k'=k1→q ≠ q0)→m6 w g k' q c→m6 w' g2 k' q (c.kill (ez k1 [(q0,i0)] j)):=fun k' q c hne h3=>by
  have hu1:∀ i r q',I5 k1 q0 i0 j k' ([] ++ (q,i) :: r) q'=false:=fun i r q'=>by
   cases hu:I5 k1 q0 i0 j k' ([] ++ (q,i) :: r) q' with
   | false=>rfl
   | true=>
    obtain ⟨h1,h2⟩:=PY hu
    rcases h2 with ⟨h2,_⟩|⟨i2,r2,h2⟩ <;>
     (simp only [List.nil_append,List.cons_append,List.cons.injEq,Prod.mk.injEq] at h2;exact absurd h2.1.1 (hne h1))
  cases c with
  | ro d=>show Ro w' _ d _;rw [gz _ _ _ rfl];exact Ro.mono hA.ro h3
  | own d=>exact hdis k' [] q d hu1 rfl (fun _ _ _=> .inr trivial) h3
  | ref pl=>
   have h4:g.cv k' [] q=g.cv pl.k pl.p pl.q∧(g.cv k' [] q).oneCell'=true:=h3
   simp only [C.kill]
   cases hp:ez k1 [(q0,i0)] j pl with
   | true=>trivial
   | false=>
    show g2.cv k' [] q=g2.cv pl.k pl.p pl.q∧(g2.cv k' [] q).oneCell'=true
    rw [gz _ _ _ rfl,hA.cv pl hp]
    exact h4
  | dead=>trivial
 unfold St.nest at hst
 simp only [hk,hq,he,Option.some.injEq] at hst
 subst hst
 have gT:∀ k' r',((st.kill (ez k1 [(q0,i0)] j) (wY k1 [(q0,i0)] j)).cw k1 ⟨rt.mem,(rt.row.map (C.kill (ez k1 [(q0,i0)] j))).set q0 (.own (.sl sz (ds.set i0 (e.rf (e.row.set j (.sl Pw Px))))))⟩).root k'=some r'→
   (k'=k1∧r'=⟨rt.mem,(rt.row.map (C.kill (ez k1 [(q0,i0)] j))).set q0 (.own (.sl sz (ds.set i0 (e.rf (e.row.set j (.sl Pw Px))))))⟩) ∨ (k' ≠ k1∧∃ r1,st.root k'=some r1∧r'=r1.kill (ez k1 [(q0,i0)] j)):=fun k' r' h=>by
  rw [St.dA] at h
  split at h
  ·rename_i e1
   simp only [Option.some.injEq] at h
   exact .inl ⟨e1,h.symm⟩
  ·rename_i e1
   rw [St.j5,Option.map_eq_some_iff] at h
   obtain ⟨r1,h1,h2⟩:=h
   exact .inr ⟨e1,r1,h1,h2.symm⟩
 refine hR.change hA rfl ⟨fun k' r' hk' q c hc=> ?_,fun k' r' hk' hm=> ?_⟩ ?_
 ·rcases gT k' r' hk' with ⟨rfl,rfl⟩|⟨h1,r1,h3,rfl⟩
  ·rw [List.getElem?_set] at hc
   by_cases e1:q0=q
   ·subst e1
    rw [if_pos rfl] at hc
    split at hc
    ·simp only [Option.some.injEq] at hc
     subst hc
     exact hO'
    ·cases hc
   ·rw [if_neg e1,List.getElem?_map,Option.map_eq_some_iff] at hc
    obtain ⟨c1,h4,rfl⟩:=hc
    exact U7 k' q c1 (fun _ h=>e1 h.symm) (hR.rt.cell k' rt hk q c1 h4)
  ·simp only [Rt.kill,List.getElem?_map,Option.map_eq_some_iff] at hc
   obtain ⟨c1,h4,rfl⟩:=hc
   exact U7 k' q c1 (fun h=>absurd h h1) (hR.rt.cell k' r1 h3 q c1 h4)
 ·have hmem:∀ k' r1,st.root k'=some r1→r1.mem=true→g2.o (g2.ad k' []).1= .box k'∧(∃ cs e,w'.heap[(g2.ad k' []).1]? = some (.cells cs e (0,0)))∧∀ q,q < r1.row.length→w'.cell? (bw (g2.ad k' []) q)=some (g2.cv k' [] q):=fun k' r1 h2 h3=>by
   obtain ⟨m1,⟨cs,t,m2⟩,m3⟩:=hR.rt.mem k' r1 h2 h3
   have hlt:=kF m2
   have hs:=Tg _ hlt (hplain _ hlt fun k2 p2 q2 e2=>by rw [m1] at e2;cases e2)
   rw [had _ _ fun q=> .inl rfl]
   refine ⟨by rw [hs.2];exact m1,⟨cs,t,by rw [hs.1];exact m2⟩,fun q hq=> ?_⟩
   rw [gz _ _ _ rfl, ← m3 q hq]
   exact World.cell?_of_block (w:=w) hs.1
  rcases gT k' r' hk' with ⟨rfl,rfl⟩|⟨h1,r1,h3,rfl⟩
  ·obtain ⟨m1,m2,m3⟩:=hmem k' rt hk hm
   exact ⟨m1,m2,fun q hq=>m3 q (by simpa using hq)⟩
  ·obtain ⟨m1,m2,m3⟩:=hmem k' r1 h3 hm
   exact ⟨m1,m2,fun q hq=>m3 q (by simpa [Rt.kill] using hq)⟩
 ·have yC:=hR.ks
  refine ⟨hG.os.trans yC.os,hG.tape.trans yC.tape,hG.output.trans yC.output,Nat.le_trans yC.size hG.size,fun b hb hx=> ?_,fun b hb=> ?_,fun b hb hx=> ?_,⟨fun q=> ?_, ?_⟩,fun b hb=> ?_⟩
  ·obtain ⟨h1,h2⟩:=yC.block b hb hx
   have hlt:b < w.heap.size:=Nat.lt_of_lt_of_le hb yC.size
   have hs:=Tg b hlt (hplain b hlt fun k2 p2 q2 e2=>by rw [h2] at e2;rcases hx with hx|hx <;> rw [hx] at e2 <;> cases e2)
   exact ⟨by rw [hs.1];exact h1,by rw [hs.2];exact h2⟩
  ·have:=hG.size
   subst oe
   simp only [Gh.uG]
   rw [if_neg (fun h=>by omega),if_neg (by omega)]
  ·subst oe
   simp only [Gh.uG] at hx
   split at hx
   ·rename_i h1
    exact yC.old b h1.1 hx
   ·repeat' split at hx
    all_goals first|(cases hx;done)|omega
  ·rw [gz _ _ _ rfl];exact yC.v8.1 q
  ·rw [had _ _ fun q=> .inl rfl];exact yC.v8.2
  ·subst oe
   simp only [Gh.uG] at hb
   split at hb
   ·exact yC.iS b hb
   ·repeat' split at hb
    all_goals cases hb
inductive NG (k1 q0 i0 j:Nat):TS→TS→Prop
 | ro (d:D):NG k1 q0 i0 j (.one (.c (.ro d))) (.one (.c (.ro d)))
 | it:NG k1 q0 i0 j (.one (.c (.ref ⟨k1,[(q0,i0)],j⟩))) (.one (.c (.ref ⟨cu,[],0⟩)))
inductive vl (k1 q0 i0 j:Nat):List TS→List TS→Prop
 | nil:vl k1 q0 i0 j [] []
 | cons {t t':TS} {ts ts':List TS} (h:NG k1 q0 i0 j t t') (hs:vl k1 q0 i0 j ts ts'):vl k1 q0 i0 j (t :: ts) (t' :: ts')
theorem vl.get:∀ {ts ts':List TS},vl k1 q0 i0 j ts ts'→ts'.length=ts.length∧∀ (i:Nat) t',ts'[i]? = some t'→∃ t,ts[i]? = some t∧NG k1 q0 i0 j t t'
 | _,_, .nil=>⟨rfl,fun i t' h=>by simp at h⟩
 | _,_, .cons h hs=>by
  obtain ⟨h1,h2⟩:=hs.get
  refine ⟨by simp [h1],fun i t' hi=> ?_⟩
  cases i with
  | zero=>
   simp only [List.getElem?_cons_zero,Option.some.injEq] at hi
   subst hi
   exact ⟨_,rfl,h⟩
  | succ i=>exact h2 i t' (by simpa using hi)
theorem Rel.giveN (hR:Rel w0 g0 st a w g) {t t':TS} {u:Value} (hg:NG k1 q0 i0 j t t') (hu:dN w g t u):dN w (g.oT w.heap.size k1 q0 i0 j) t' u:=by
 cases hg with
 | ro d=>
  cases hu with
  | one _ _ hu=>
   cases hu with
   | c _ _ hu=>
    refine .one _ _ (.c (.ro d) _ ?_)
    refine Ro.mono (w:=w) (o:=g.o) (fun b hb=>⟨?_,rfl⟩) hu
    have:=hR.Tf (b:=b) (by rw [hb];simp)
    simp [Gh.oT,Nat.not_le.2 this,hb]
 | it=>
  cases hu with
  | one _ _ hu=>
   cases hu with
   | c _ _ hu=>
    have h1:u=g.cv k1 [(q0,i0)] j∧u.oneCell'=true:=hu
    refine .one _ _ (.c (.ref ⟨cu,[],0⟩) _ ?_)
    show u=(g.oT w.heap.size k1 q0 i0 j).cv cu [] 0∧u.oneCell'=true
    exact ⟨by simp [Gh.oT,h1.1],h1.2⟩
end
set_option maxRecDepth 100000
section
variable {P:Program} {w0:World} {g0:Gh} {st:St}
end
def reaches (md:Region.Mode) (ops:Array Oper):Nat→Nat→Nat→Bool
 | 0,_,_=>false
 | n + 1,j,i=>match ops[j]? with
  | none=>false
  | some o=>o.after.any fun e=>Region.binds md e && (e.on == i || reaches md ops n e.on i)
def vm (md:Region.Mode) (ops:Array Oper) (listed:Array Bool):Prop:=
 ∀ j o,ops[j]? = some o→listed.getD j false=true→∀ e ∈ o.after,Region.binds md e=true→listed.getD e.on false=true
theorem vm.set {md:Region.Mode} {ops:Array Oper} {listed:Array Bool} (h:vm md ops listed) {i:Nat} (hi:i ∈ Region.ready md ops listed):vm md ops (listed.setIfInBounds i true):=fun j o ho hj e he hb=>by
 by_cases hji:i=j
 subst hji
 obtain ⟨_,o',ho',hall⟩:=mem_ready.1 hi
 rw [ho] at ho'
 cases ho'
 exact getD_set_true (hall e he hb)
 rw [getD_set_ne false hji] at hj
 exact getD_set_true (h j o ho hj e he hb)
theorem r6 {md:Region.Mode} {ops:Array Oper} {listed:Array Bool} (hc:vm md ops listed) {i:Nat}:∀ (n j:Nat),(∀ o,ops[j]? = some o→∀ e ∈ o.after,Region.binds md e=true→listed.getD e.on false=true)→
  reaches md ops n j i=true→listed.getD i false=true
 | 0,j,_,h=>by simp [reaches] at h
 | n + 1,j,hj,h=>by
  unfold reaches at h
  cases ho:ops[j]? with
  | none=>rw [ho] at h;cases h
  | some o=>
   rw [ho] at h
   simp only [Array.any_eq_true] at h
   obtain ⟨t,ht,h⟩:=h
   simp only [Bool.and_eq_true,Bool.or_eq_true,beq_iff_eq] at h
   have hl:=hj o ho o.after[t] (Array.getElem_mem ht) h.1
   rcases h.2 with h2|h2
   rw [← h2];exact hl
   exact r6 hc n _ (fun o' ho' e he hb=>hc _ o' ho' hl e he hb) h2
section
variable {P:Program} {ops:Array Oper} {md:Region.Mode} {Q:Exit→Act→World→Prop} {wr:Nat}
theorem P0 {i:Nat} {a:Act} {w:World} {K K':Act→World→Prop} (h:∀ a w,K a w→K' a w) (hh:wpOp P ops Q i K a w):wpOp P ops Q i K' a w:=by
 unfold wpOp at *
 split
 rename_i ho;simp only [ho] at hh;exact h _ _ hh
 rename_i o ho
 simp only [ho] at hh
 split
 rename_i hw
 simp only [hw,if_true] at hh
 rcases hh with hh|hh
 exact .inl (Oper.wp_mono h hh)
 exact .inr hh
 rename_i hw;simp only [hw] at hh;exact h _ _ hh
end
section
variable {P:Program} {w0:World} {g0:Gh} {st:St}
theorem s3.U2 {o:Oper} {bJ:St} {Q:St→Prop} {f:FuncId} {cx:Operand} {args:List Operand} {qA:Array TypeId} {fn:Func}
  (ho:o.op= .call { callee:= .value cx,args:=args.toArray,argTypes:=qA }) (m9:T.cH 0 st cx=some (.fn f [])) (hf:P.funcs[f]? = some fn) (hb:fn.body.isNone=false)
  (hn : (fn.name == "runtime.NumGoroutine") = false) {ts ts' : List TS} (hx : kV st args = some ts) {t : TS} {x : Value} (hc : Ao P w0 g0 f ts' (RP t)) (hs : uz st ts ts') (hp : qw t = some x)
  (Nx:st.put o.dst t=bJ) (hq:Q bJ):s3 P w0 g0 o st Q:=fun a w g hR K' Lu=>by
 have h1:=hR.kV hx
 have h2:=hs.get
 have kX:=hc w hR.ks.kept { g with o:=jn w } (args.map a.eval).toArray 0 rfl (by simp [h1.1,h2.1]) (fun i t' u hi hu=>by
  obtain ⟨t,h3,h4⟩:=h2.2 i t' hi
  exact hR.tS h4 (h1.2 i t u h3 (by simpa using hu)) _ rfl)
 rw [mq hR ho m9 hf hb hn w]
 refine ⟨hJ.refl w,kX.mono fun e w' ⟨v,r,g',he,hr,hG⟩=> ?_⟩
 have h5:=hG.val
 rw [hr] at h5
 have h6:=(iO hp).1 h5
 subst h6
 exact ⟨v,he,hG.later,Lu _ _ _ _ hq (Nx ▸ (hR.later hG.later).put ((iO hp).2 rfl) o.dst)⟩
end
section
variable {P:Program} {w0:World} {g0:Gh} {st:St} {o:Oper} {ty e:TypeId} {x y:Operand}
end
def Gh.takeN (g:Gh) (k1:Nat) (p1:List (Nat×Nat)) (q1 L:Nat):Gh where
 o b:=match g.o b with
  | .c6 k' P Q=>if k'=k1 then (if P=p1∧Q=q1 then .c6 L [] 0 else match behind p1 q1 P with|some (i,r)=> .c6 L ((0,i) :: r) Q|none=> .c6 k' P Q) else if k'=L then .ro else .c6 k' P Q
  | .box k'=>if k'=L then .ro else .box k'
  | t=>t
 ad k' P:=if k'=L then (match P with| []=>(0,0)|(_,i) :: r=>g.ad k1 (p1 ++ (q1,i) :: r)) else g.ad k' P
 cv k' P Q:=if k'=L then (match P with| []=>g.cv k1 p1 q1|(_,i) :: r=>g.cv k1 (p1 ++ (q1,i) :: r) Q) else g.cv k' P Q
section
variable {w:World} {g:Gh} {k1:Nat} {p1:List (Nat×Nat)} {q1 L:Nat}
theorem kY {k':Nat} (h:k' ≠ L) (P:List (Nat×Nat)) (Q:Nat):(g.takeN k1 p1 q1 L).cv k' P Q=g.cv k' P Q:=by simp only [Gh.takeN,if_neg h]
theorem r7 {k':Nat} (h:k' ≠ L) (P:List (Nat×Nat)):(g.takeN k1 p1 q1 L).ad k' P=g.ad k' P:=by simp only [Gh.takeN,if_neg h]
theorem U8 {b:Nat} (h:g.o b= .ro):(g.takeN k1 p1 q1 L).o b= .ro:=by simp [Gh.takeN,h]
theorem JZ {b k':Nat} (h:k' ≠ L) (hb:g.o b= .box k'):(g.takeN k1 p1 q1 L).o b= .box k':=by simp [Gh.takeN,hb,h]
theorem vn {b k':Nat} {P:List (Nat×Nat)} {Q:Nat} (h:k' ≠ L) (hn:k'=k1→¬ Un p1 q1 P Q) (hb:g.o b= .c6 k' P Q):(g.takeN k1 p1 q1 L).o b= .c6 k' P Q:=by
 simp only [Gh.takeN,hb]
 by_cases e:k'=k1
 have hn':=hn e
 rw [if_pos e,if_neg (fun h=>hn' (.inl ⟨h.1,h.2⟩)),s7 (fun ⟨i,r,hx⟩=>hn' (.inr ⟨i,r,hx⟩))]
 rw [if_neg e,if_neg h]
theorem U9 {b:Nat} (hb:g.o b= .c6 k1 p1 q1):(g.takeN k1 p1 q1 L).o b= .c6 L [] 0:=by simp [Gh.takeN,hb]
theorem U_ {b i Q:Nat} {r:List (Nat×Nat)} (hb:g.o b= .c6 k1 (p1 ++ (q1,i) :: r) Q):(g.takeN k1 p1 q1 L).o b= .c6 L ((0,i) :: r) Q:=by
 simp only [Gh.takeN,hb,if_true,pR]
 rw [if_neg]
 rintro ⟨h,_⟩
 have:=congrArg List.length h
 simp at this
theorem vo {k':Nat} {P:List (Nat×Nat)} {Q:Nat} {d:D} (h:k' ≠ L) (hn:k'=k1→¬ Un P Q p1 q1∧¬ Un p1 q1 P Q) (hr:Ow w g k' P Q d):Ow w (g.takeN k1 p1 q1 L) k' P Q d:=by
 refine Ow.move hr ⟨kY h _ _,fun i r q'=>kY h _ _,fun i r=>r7 h _,fun b hb=>⟨vn h (fun e=>(hn e).2) hb,rfl⟩,fun b i r q' hb=>⟨vn h (fun e hu=> ?_) hb,rfl⟩⟩
 rcases Un.both (p:=P) (q:=Q) (.inr ⟨i,r,rfl⟩) hu with hx|hx
 exact (hn e).1 hx
 exact (hn e).2 hx
theorem Un.Yg {p p':List (Nat×Nat)} {q q':Nat} (h:Un p q p' q'):p.length ≤ p'.length:=by
 rcases h with ⟨h,_⟩|⟨i,r,h⟩
 rw [h];exact Nat.le_refl _
 rw [h];simp
theorem Yh {e:D} {r:List (Nat×Nat)} {q:Nat} {er:List D} (rN:setAt e.row r q .hole=some er):(e.rf er).row=er:=by
 have Nd:=og r e.row q .hole er rN
 refine D.JJ e er Nd (fun x hx hst=> ?_)
 subst hx
 cases r with
 | nil=>
  simp only [setAt] at rN
  split at rN
  simp only [Option.some.injEq] at rN
  cases e with
  | st ds=>exact absurd rfl (hst ds)
  | _=>
   simp only [D.row,List.length_cons,List.length_nil] at *
   have S5:q=0:=by omega
   subst S5
   simp only [List.set_cons_zero,List.cons.injEq,and_true] at rN
   subst rN
   rfl
  cases rN
 | cons y r=>
  obtain ⟨y1,y2⟩:=y
  simp only [setAt] at rN
  split at rN
  rename_i sz' ds' hy
  split at rN
  simp only [Option.map_eq_some_iff] at rN
  obtain ⟨z,_,hz⟩:=rN
  cases e with
  | st ds=>exact absurd rfl (hst ds)
  | _=>
   simp only [D.row] at *
   cases y1 with
   | zero=>
    simp only [List.set_cons_zero,List.cons.injEq,and_true] at hz
    subst hz
    rfl
   | succ y1=>simp at hy
  cases rN
  cases rN
theorem NH {p0:List (Nat×Nat)} {q0 i:Nat} {r:List (Nat×Nat)} {sz:Nat} {ds:List D} {e:D} {er:List D} (hL:k1 ≠ L) (hp:p1=p0 ++ (q0,i) :: r) (PC:Ow w g k1 p0 q0 (.sl sz ds)) (he:ds[i]? = some e)
  (rN:setAt e.row r q1 .hole=some er) (hin:v_ w (g.takeN k1 p1 q1 L) k1 (p0 ++ [(q0,i)]) er):Ow w (g.takeN k1 p1 q1 L) k1 p0 q0 (.sl sz (ds.set i (e.rf er))):=by
 have Nd:=og r e.row q1 .hole er rN
 have Uy:=Yh rN
 have hlen:p1.length=p0.length + 1 + r.length:=by rw [hp];simp;omega
 cases PC with
 | nil _ _ _ hc=>simp at he
 | sl _ _ _ _ b off n c cs ty hc hn hm hnc v7 ho hb hfit hro Nf hcell hel=>
  refine .sl p0 q0 sz _ b off n c cs ty (by rw [kY hL];exact hc) (by rw [List.length_set];exact hn) hm hnc v7 (vn hL (fun _ hu=>by have:=hu.Yg;omega) ho) hb hfit (fun d hd=> ?_)
   (fun j hj=>by rw [r7 hL];exact Nf j hj) (fun j j2 hj hj2=>by rw [kY hL];exact hcell j j2 hj hj2) (fun j d hd j2 c' hj2=> ?_)
  rcases List.mem_or_eq_of_mem_set hd with h|h
  exact hro d h
  rw [h,Uy,Nd]
  exact hro e (List.mem_of_getElem? he)
  rw [List.getElem?_set] at hd
  by_cases e1:i=j
  subst e1
  rw [if_pos rfl] at hd
  split at hd
  simp only [Option.some.injEq] at hd
  subst hd
  rw [Uy] at hj2
  exact hin.own j2 c' hj2
  cases hd
  rw [if_neg e1] at hd
  refine vo hL (fun _=>⟨fun hu=> ?_,fun hu=> ?_⟩) (hel j d hd j2 c' hj2)
  rcases hu with ⟨hx,_⟩|⟨i',r',hx⟩
  rw [hp] at hx
  have:=List.append_cancel_left hx
  simp only [List.cons.injEq,Prod.mk.injEq] at this
  exact e1 this.1.2
  rw [hp,List.append_assoc] at hx
  have:=List.append_cancel_left hx
  simp only [List.cons_append,List.nil_append,List.cons.injEq,Prod.mk.injEq] at this
  exact e1 this.1.2
  rcases hu with ⟨hx,_⟩|⟨i',r',hx⟩
  rw [hp] at hx
  have:=List.append_cancel_left hx
  simp only [List.cons.injEq,Prod.mk.injEq] at this
  exact e1 this.1.2.symm
  have h3:=congrArg List.length hx
  simp only [List.length_append,List.length_cons,List.length_nil] at h3
  omega
theorem J0 (hL:k1 ≠ L):∀ (r:List (Nat×Nat)) {p0:List (Nat×Nat)} {row row':List D},v_ w g k1 p0 row→p1=p0 ++ r→setAt row r q1 .hole=some row'→v_ w (g.takeN k1 p1 q1 L) k1 p0 row'
 | r,p0,row,row',h,hp,hs=>by
  have hlen:=og r row q1 .hole row' hs
  have F3:p1.length=p0.length + r.length:=by rw [hp];simp
  refine ⟨fun j c hj=> ?_,fun j hj=>by rw [r7 hL,kY hL];exact h.cell j (by omega), ?_⟩
  cases r with
  | nil=>
   simp only [setAt] at hs
   split at hs
   rename_i hq
   simp only [Option.some.injEq] at hs
   subst hs
   rw [List.getElem?_set] at hj
   by_cases e:q1=j
   subst e
   rw [if_pos rfl,if_pos hq,Option.some.injEq] at hj
   subst hj
   exact .hole _ _
   rw [if_neg e] at hj
   rw [List.append_nil] at hp
   refine vo hL (fun _=>⟨fun hu=> ?_,fun hu=> ?_⟩) (h.own j c hj)
   rcases hu with ⟨_,hx⟩|⟨i',r',hx⟩
   exact e hx
   rw [hp] at hx
   have:=congrArg List.length hx
   simp at this
   rcases hu with ⟨_,hx⟩|⟨i',r',hx⟩
   exact e hx.symm
   rw [hp] at hx
   have:=congrArg List.length hx
   simp at this
   cases hs
  | cons y r=>
   obtain ⟨q0,i⟩:=y
   simp only [setAt] at hs
   split at hs
   rename_i sz ds hq
   split at hs
   rename_i e hd
   rw [Option.map_eq_some_iff] at hs
   obtain ⟨er,rN,rfl⟩:=hs
   have hO:=h.own q0 _ hq
   have hin:=J0 hL r (hO.row hd) (by rw [hp];simp) rN
   rw [List.getElem?_set] at hj
   by_cases e1:q0=j
   subst e1
   rw [if_pos rfl] at hj
   split at hj
   simp only [Option.some.injEq] at hj
   subst hj
   exact NH hL hp hO hd rN hin
   cases hj
   rw [if_neg e1] at hj
   refine vo hL (fun _=>⟨fun hu=> ?_,fun hu=> ?_⟩) (h.own j c hj)
   rcases hu with ⟨hx,_⟩|⟨i',r',hx⟩
   rw [hp] at hx
   have:=congrArg List.length hx
   simp at this
   rw [hp] at hx
   have:=List.append_cancel_left hx
   simp only [List.cons.injEq,Prod.mk.injEq] at this
   exact e1 this.1.1
   have:=hu.Yg
   simp only [List.length_cons] at F3
   omega
   cases hs
   cases hs
  rw [r7 hL]
  have ht:=h.tag
  rcases List.eq_nil_or_concat p0 with rfl|⟨l,x,rfl⟩
  rw [CB] at ht ⊢
  exact JZ hL ht
  obtain ⟨a,b⟩:=x
  rw [List.concat_eq_append] at *
  rw [oZ] at ht ⊢
  refine vn hL (fun _ hu=> ?_) ht
  have:=hu.Yg
  simp only [List.length_append,List.length_cons,List.length_nil] at F3
  omega
termination_by r=>r.length
end
def reC (k1:Nat) (p1:List (Nat×Nat)) (q1 L:Nat):C→C
 | .ref pl=>if pl.k=k1∧pl.p=p1∧pl.q=q1 then .ref ⟨L,[],0⟩ else .ref pl
 | .ro d=> .ro d
 | .own d=> .own d
 | .dead=> .dead
def reT (k1:Nat) (p1:List (Nat×Nat)) (q1 L:Nat):TS→TS
 | .one (.c c)=> .one (.c (reC k1 p1 q1 L c))
 | .one (.agg cs)=> .one (.agg cs)
 | .one (.ptr pl)=> .one (.ptr pl)
 | .one (.b9 ds)=> .one (.b9 ds)
 | .one (.Ef p)=> .one (.Ef p)
 | .one (.qV p)=> .one (.qV p)
 | .one (.cut pl sz lo hi)=> .one (.cut pl sz lo hi)
 | .one .dead=> .one .dead
 | .mj ts=> .mj ts
 | .fn f ts=> .fn f ts
def St.takeN (st:St) (k1:Nat) (p1:List (Nat×Nat)) (q1 L:Nat):Option St:=
 match st.root k1 with
 | some r=>match st.cellAt ⟨k1,p1,q1⟩ with
  | some (.own (.sl sz ds))=>(setRow (r.row.map (C.kill fun pl=>pl.k == L)) p1 q1 (.own .hole)).map fun row'=>
   ⟨((st.fresh L ⟨false,[.own (.sl sz ds)]⟩).cw k1 ⟨r.mem,row'⟩).tmps.map (reT k1 p1 q1 L),((st.fresh L ⟨false,[.own (.sl sz ds)]⟩).cw k1 ⟨r.mem,row'⟩).roots⟩
  | _=>none
 | none=>none
section
variable {P:Program} {w0:World} {g0:Gh} {st:St} {a:Act} {w:World} {g:Gh}
theorem Rel.named (hR:Rel w0 g0 st a w g) {k1:Nat} {p1:List (Nat×Nat)} {q1 L:Nat} (he:g.cv L [] 0=g.cv k1 p1 q1):Rel w0 g0 ⟨st.tmps.map (reT k1 p1 q1 L),st.roots⟩ a w g:=by
 refine ⟨fun i tv hi=> ?_,by simp [hR.sz],hR.df,hR.rt,hR.ks⟩
 rw [List.getElem?_map,Option.map_eq_some_iff] at hi
 obtain ⟨t,h1,rfl⟩:=hi
 have h2:=hR.tm i t h1
 generalize a.tmps.getD i undef=u at h2
 unfold reT
 split
 ·rename_i c
  cases h2 with
  | one _ _ h2=>
   cases h2 with
   | c _ _ h2=>
    refine .one _ _ (.c _ _ ?_)
    unfold reC
    split
    ·rename_i pl
     split
     ·rename_i hx
      obtain ⟨k,p,q⟩:=pl
      obtain ⟨rfl,rfl,rfl⟩:=hx
      have h3:u=g.cv k p q∧u.oneCell'=true:=h2
      show u=g.cv L [] 0∧u.oneCell'=true
      rw [he]
      exact h3
     ·exact h2
    all_goals exact h2
 all_goals exact h2
theorem Rel.takeN (hR:Rel w0 g0 st a w g) {k1:Nat} {p1:List (Nat×Nat)} {q1 L:Nat} {bJ:St} (ht:st.takeN k1 p1 q1 L=some bJ) (hne:k1 ≠ L) (hLp:L < 1000000):∃ g1,Rel w0 g0 bJ a w g1:=by
 unfold St.takeN at ht
 split at ht
 rename_i r hk
 split at ht
 rename_i sz ds hq
 rw [Option.map_eq_some_iff] at ht
 obtain ⟨row',iT,rfl⟩:=ht
 have Al:cu ≠ L:=by simp only [cu];omega
 have PG:ev ≠ L:=by simp only [ev];omega
 have hO:Ow w g k1 p1 q1 (.sl sz ds):=(hR.cellAt hq).1 _ rfl
 have hcvL:(g.takeN k1 p1 q1 L).cv L [] 0=(g.takeN k1 p1 q1 L).cv k1 p1 q1:=by rw [kY hne];simp [Gh.takeN]
 refine ⟨g.takeN k1 p1 q1 L,Rel.named ?_ hcvL⟩
 have hro:∀ b,g.o b= .ro→(g.takeN k1 p1 q1 L).o b= .ro∧w.heap[b]? = w.heap[b]? :=fun b hb=>⟨U8 hb,rfl⟩
 have hA:qo w g w (g.takeN k1 p1 q1 L) (fun pl=>pl.k == L) (fun pl=>pl.k == L):=⟨hro,fun pl hp=>kY (by simpa using hp) _ _,fun pl hp=>r7 (by simpa using hp) _⟩
 have hcell:∀ k' q c,k' ≠ L→(k'=k1→¬ Un [] q p1 q1∧¬ Un p1 q1 [] q)→m6 w g k' q c→m6 w (g.takeN k1 p1 q1 L) k' q (c.kill fun pl=>pl.k == L):=fun k' q c h1 h2 h3=>by
  cases c with
  | ro d=>show Ro w _ d _;rw [kY h1];exact Ro.mono hro h3
  | own d=>exact vo h1 h2 h3
  | ref pl=>
   have h4:g.cv k' [] q=g.cv pl.k pl.p pl.q∧(g.cv k' [] q).oneCell'=true:=h3
   simp only [C.kill]
   by_cases e:pl.k=L
   rw [if_pos (by simpa using e)];trivial
   rw [if_neg (by simpa using e)]
   show (g.takeN k1 p1 q1 L).cv k' [] q=(g.takeN k1 p1 q1 L).cv pl.k pl.p pl.q∧((g.takeN k1 p1 q1 L).cv k' [] q).oneCell'=true
   rw [kY h1,kY e]
   exact h4
  | dead=>trivial
 have JP:∀ (q:Nat) c,row'[q]? = some c→m6 w (g.takeN k1 p1 q1 L) k1 q c:=fun q c hc=>by
  have hold:∀ c,(r.row.map (C.kill fun pl=>pl.k == L))[q]? = some c→(¬ Un [] q p1 q1∧¬ Un p1 q1 [] q)→m6 w (g.takeN k1 p1 q1 L) k1 q c:=fun c hc hn=>by
   rw [List.getElem?_map,Option.map_eq_some_iff] at hc
   obtain ⟨c1,h4,rfl⟩:=hc
   exact hcell k1 q c1 hne (fun _=>hn) (hR.rt.cell k1 r hk q c1 h4)
  cases p1 with
  | nil=>
   simp only [setRow] at iT
   split at iT
   rename_i Uo
   simp only [Option.some.injEq] at iT
   subst iT
   rw [List.getElem?_set] at hc
   by_cases e:q1=q
   subst e
   rw [if_pos rfl,if_pos Uo,Option.some.injEq] at hc
   subst hc
   exact Ow.hole _ _
   rw [if_neg e] at hc
   refine hold c hc ⟨fun hu=> ?_,fun hu=> ?_⟩
   rcases hu with ⟨_,hx⟩|⟨i,r',hx⟩
   exact e hx
   cases hx
   rcases hu with ⟨_,hx⟩|⟨i,r',hx⟩
   exact e hx.symm
   cases hx
   cases iT
  | cons y p=>
   obtain ⟨q0,i⟩:=y
   simp only [setRow] at iT
   split at iT
   rename_i sz0 ds0 S5
   split at iT
   rename_i e0 he0
   rw [Option.map_eq_some_iff] at iT
   obtain ⟨er,rN,rfl⟩:=iT
   rw [List.getElem?_set] at hc
   by_cases e:q0=q
   subst e
   rw [if_pos rfl] at hc
   split at hc
   simp only [Option.some.injEq] at hc
   subst hc
   rw [List.getElem?_map,Option.map_eq_some_iff] at S5
   obtain ⟨c1,h4,h5⟩:=S5
   have h6:c1= .own (.sl sz0 ds0):=by
    cases c1 with
    | ref pl=>simp only [C.kill] at h5;split at h5 <;> cases h5
    | own d=>exact h5
    | ro d=>cases h5
    | dead=>cases h5
   subst h6
   have hOr:Ow w g k1 [] q0 (.sl sz0 ds0):=hR.rt.cell k1 r hk q0 _ h4
   exact NH hne rfl hOr he0 rN (J0 hne p (hOr.row he0) rfl rN)
   cases hc
   rw [if_neg e] at hc
   refine hold c hc ⟨fun hu=> ?_,fun hu=> ?_⟩
   rcases hu with ⟨hx,_⟩|⟨i',r',hx⟩
   cases hx
   simp only [List.nil_append,List.cons.injEq,Prod.mk.injEq] at hx
   exact e hx.1.1
   have:=hu.Yg
   simp at this
   cases iT
   cases iT
 have gT:∀ k' r',((st.fresh L ⟨false,[.own (.sl sz ds)]⟩).cw k1 ⟨r.mem,row'⟩).root k'=some r'→
   (k'=k1∧r'=⟨r.mem,row'⟩) ∨ (k'=L∧r'=⟨false,[.own (.sl sz ds)]⟩) ∨ (k' ≠ k1∧k' ≠ L∧∃ r1,st.root k'=some r1∧r'=r1.kill fun pl=>pl.k == L):=fun k' r' h=>by
  rw [St.dA] at h
  split at h
  rename_i e
  simp only [Option.some.injEq] at h
  exact .inl ⟨e,h.symm⟩
  rename_i e
  rw [St.fresh,St.dA] at h
  split at h
  rename_i e2
  simp only [Option.some.injEq] at h
  exact .inr (.inl ⟨e2,h.symm⟩)
  rename_i e2
  rw [St.j5,Option.map_eq_some_iff] at h
  obtain ⟨r1,h1,h2⟩:=h
  exact .inr (.inr ⟨e,e2,r1,h1,h2.symm⟩)
 refine hR.change hA rfl ⟨fun k' r' hk' q c hc=> ?_,fun k' r' hk' hm=> ?_⟩ ?_
 rcases gT k' r' hk' with ⟨rfl,rfl⟩|⟨rfl,rfl⟩|⟨h1,h2,r1,h3,rfl⟩
 exact JP q c hc
 cases q with
 | succ q=>simp at hc
 | zero=>
  simp only [List.getElem?_cons_zero,Option.some.injEq] at hc
  subst hc
  refine Ow.move hO ⟨by simp [Gh.takeN],fun i r q'=>by simp [Gh.takeN],fun i r=>by simp [Gh.takeN],fun b hb=>⟨U9 hb,rfl⟩,fun b i r q' hb=>⟨U_ hb,rfl⟩⟩
 simp only [Rt.kill,List.getElem?_map,Option.map_eq_some_iff] at hc
 obtain ⟨c1,h4,rfl⟩:=hc
 exact hcell k' q c1 h2 (fun e=>absurd e h1) (hR.rt.cell k' r1 h3 q c1 h4)
 have hmem:∀ k' r1,k' ≠ L→st.root k'=some r1→r1.mem=true→(g.takeN k1 p1 q1 L).o ((g.takeN k1 p1 q1 L).ad k' []).1= .box k'∧(∃ cs e,w.heap[((g.takeN k1 p1 q1 L).ad k' []).1]? = some (.cells cs e (0,0)))∧
   ∀ q,q < r1.row.length→w.cell? (bw ((g.takeN k1 p1 q1 L).ad k' []) q)=some ((g.takeN k1 p1 q1 L).cv k' [] q):=fun k' r1 h1 h2 h3=>by
  obtain ⟨m1,m2,m3⟩:=hR.rt.mem k' r1 h2 h3
  rw [r7 h1]
  refine ⟨JZ h1 m1,m2,fun q hq=> ?_⟩
  rw [kY h1]
  exact m3 q hq
 rcases gT k' r' hk' with ⟨rfl,rfl⟩|⟨rfl,rfl⟩|⟨h1,h2,r1,h3,rfl⟩
 obtain ⟨m1,m2,m3⟩:=hmem k' r hne hk hm
 exact ⟨m1,m2,fun q hq=>m3 q (by rw [tQ iT,List.length_map] at hq;exact hq)⟩
 cases hm
 obtain ⟨m1,m2,m3⟩:=hmem k' r1 h2 h3 hm
 exact ⟨m1,m2,fun q hq=>m3 q (by simpa [Rt.kill] using hq)⟩
 have yC:=hR.ks
 refine ⟨yC.os,yC.tape,yC.output,yC.size,fun b hb hx=> ?_,fun b hb=> ?_,fun b hb hx=> ?_,⟨fun q=> ?_, ?_⟩,fun b hb=> ?_⟩
 obtain ⟨h1,h2⟩:=yC.block b hb hx
 refine ⟨h1, ?_⟩
 rcases hx with hx|hx <;> simp [Gh.takeN,h2,hx]
 simp [Gh.takeN,yC.fresh b hb]
 refine yC.old b hb ?_
 revert hx
 simp only [Gh.takeN]
 split
 split
 split
 simp
 split <;> simp
 split <;> simp
 split <;> simp
 exact fun h=>h
 rw [kY Al];exact yC.v8.1 q
 rw [r7 PG];exact yC.v8.2
 revert hb
 simp only [Gh.takeN]
 split
 split
 split
 simp
 split <;> simp
 split <;> simp
 rename_i k' hb0
 split
 simp
 intro hb
 simp only [Tag.box.injEq] at hb
 subst hb
 exact yC.iS b hb0
 rename_i h1 h2
 intro hb
 exact yC.iS b hb
 cases ht
 cases ht
end
section
variable {P:Program} {w0:World} {g0:Gh} {st:St} {a:Act} {w w':World} {g g':Gh}
end
end Go.Proofs.YtdliggkohdnipaaGreat.T
