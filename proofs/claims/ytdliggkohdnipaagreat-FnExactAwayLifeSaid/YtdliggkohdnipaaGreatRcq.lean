import Derived.Test.YtdliggkohdnipaaGreatRbq
set_option linter.unusedVariables false
set_option linter.unusedSimpArgs false
namespace Go.Proofs.YtdliggkohdnipaaGreat.T
open Go
section
variable {g0:Gh} {b:Int} {f n:Nat} {o:Oper} {x y:Operand} {P:Program} {rs:Rs} {st:St} {a:TS} {s t t1 t2 ty:TypeId} {w0:World}
section
variable {P:Program} {w0:World} {g0:Gh} {o:Oper} {st:St}
theorem eA.nilP {x:Operand} (ho:o.op= .nilCheck x) {pl:Pl} (hx:T.cH 0 st x=some (.one (.ptr pl))):eA P w0 g0 o st (.one (.ptr pl)):=
 fun a w g hR=>by
  have h1:=hR.cH hx
  generalize hv:a.eval x=v at h1
  cases h1 with
  | one _ _ h1=>
   cases h1 with
   | ptr _=>exact ⟨_,fun w' _=>by simp [execOp,ho,hv], .one _ _ (.ptr pl)⟩
theorem eA.indexA {s:ByteArray} {kd:IntKind} {i:Int} {b:UInt8} (ho:o.op= .index ty x y) (hx:T.cH 0 st x=some (S s)) (hy:T.cH 0 st y=some (V (.int kd i))) (hu:P.underlying ty=some .string) (h0:0 ≤ i) (hb:s[i.toNat]? = some b):
  eA P w0 g0 o st (V (.int .u8 b.toNat)):=
 fun a w g hR=>⟨.int .u8 b.toNat,fun w' _=>by
  simp [execOp,ho,hR.val hx,hR.val hy,Instr.index,run_underlying hu,asIntOf,h0,hb],Aj rfl⟩
theorem eA.Yn {s:TypeId} {f:Nat} {x:Operand} {cs:List C} {fs:Array Field} {fl:Field} {c:C} (ho:o.op= .field s x f) (hx:T.cH 0 st x=some (.one (.agg cs))) (hu:P.underlying s=some (.struct fs)) (hf:fs[f]? = some fl) (ht:wZ P fl.type=some false) (hc:cs[fl.offset]? = some c):
  eA P w0 g0 o st (.one (.c c)):=fun a w g hR=>by
 have h1:=hR.cH hx
 generalize hv:a.eval x=v at h1
 cases h1 with
 | one _ _ h1=>
  cases h1 with
  | agg _ us hs h=>
   obtain ⟨u,Up⟩:∃ u,us[fl.offset]? = some u:=⟨_,rY (by rw [hs];exact (aM.1 hc).1)⟩
   refine ⟨u,fun w' hw=> ?_, .one _ _ (.c _ _ (h _ _ _ hc Up))⟩
   simp [execOp,ho,hv,Instr.field,run_underlying hu,hf,asAgg,part,iy ht,Up]
theorem eA.Yo {s:TypeId} {f n:Nat} {x:Operand} {cs:List C} {fs:Array Field} {fl:Field} (ho:o.op= .field s x f) (hx:T.cH 0 st x=some (.one (.agg cs))) (hu:P.underlying s=some (.struct fs)) (hf:fs[f]? = some fl) (ht:wZ P fl.type=some true) (hn:j6 P fl.type=some n) (hl:fl.offset + n ≤ cs.length):
  eA P w0 g0 o st (.one (.agg ((cs.drop fl.offset).take n))):=fun a w g hR=>by
 have h1:=hR.cH hx
 generalize hv:a.eval x=v at h1
 cases h1 with
 | one _ _ h1=>
  cases h1 with
  | agg _ us hs h=>
   refine ⟨.agg (us.extract fl.offset (fl.offset + n)),fun w' hw=> ?_, .one _ _ (.agg _ _ (by simp;omega) fun j c u hc Up=> ?_)⟩
   simp [execOp,ho,hv,Instr.field,run_underlying hu,hf,asAgg,part,iy ht,c9 hn]
   rw [List.getElem?_take,List.getElem?_drop] at hc
   rw [Array.getElem?_extract] at Up
   split at hc
   split at Up
   exact h _ _ _ hc Up
   cases Up
   cases hc
theorem eA.min {a:Int} (ho:o.op= .call { callee:= .builtin .min,args:= #[x,y],argTypes:= #[t1,t2] }) (hx:T.cH 0 st x=some (I a)) (hy:T.cH 0 st y=some (I b)):eA P w0 g0 o st (I (if b < a then b else a)):=
 fun s w g hR=>⟨.int .i64 (if b < a then b else a),fun w' _=>by simp [execOp,ho,resolve,invoke,builtin,Builtin.min_,Builtin.min2,hR.val hx,hR.val hy],Aj rfl⟩
theorem eA.max {a:Int} (ho:o.op= .call { callee:= .builtin .max,args:= #[x,y],argTypes:= #[t1,t2] }) (hx:T.cH 0 st x=some (I a)) (hy:T.cH 0 st y=some (I b)):eA P w0 g0 o st (I (if b > a then b else a)):=
 fun s w g hR=>⟨.int .i64 (if b > a then b else a),fun w' _=>by simp [execOp,ho,resolve,invoke,builtin,Builtin.max_,Builtin.max2,hR.val hx,hR.val hy],Aj rfl⟩
end
def s_ (P:Program) (t:TypeId) (k:Nat→Prop):Prop:=match P.info? t with
 | some i=>oneOf i.size small k
 | none=>False
theorem k6 {k:Nat→Prop} (h:s_ P t k):∃ s,j6 P t=some s∧k s:=by
 unfold s_ at h
 split at h
 rename_i i hi
 exact ⟨i.size,by simp [j6,hi],oo h⟩
 exact h.elim
def Kc (t:TS) (k:Bool→Prop):Prop:=match t with
 | .one (.c (.ro (.v (.bool b))))=>k b
 | _=>False
theorem F_ {t:TS} {k:Bool→Prop} (h:Kc t k):∃ b,t=B b∧k b:=by
 unfold Kc at h
 split at h
 exact ⟨_,rfl,h⟩
 exact h.elim
def Ek (t:TS) (k:Int→Prop):Prop:=match t with
 | .one (.c (.ro (.v (.int kd n))))=>BR (decide (kd= .i64)) (k n) False
 | _=>False
theorem pS {t:TS} {k:Int→Prop} (h:Ek t k):∃ n,t=I n∧k n:=by
 unfold Ek at h
 split at h
 obtain ⟨h1,h2⟩:=bQ h
 simp only [decide_eq_true_eq] at h1
 subst h1
 exact ⟨_,rfl,h2⟩
 exact h.elim
def Vm (t:TS) (k:Int→Prop):Prop:=match t with
 | .one (.c (.ro (.v (.int _ n))))=>k n
 | _=>False
theorem Vn {t:TS} {k:Int→Prop} (h:Vm t k):∃ kd n,t=V (.int kd n)∧k n:=by
 unfold Vm at h
 split at h
 exact ⟨_,_,rfl,h⟩
 exact h.elim
def Ga (rs:Rs) (t:TS) (k:Nat→List D→Prop):Prop:=match t with
 | .one (.c (.ro d))=>(match d with| .sl sz ds=>k sz ds|_=>False)
 | .one (.c (.ref pl))=>(match pl with|⟨a,p,q⟩=>lP rs a p q fun _ c=>match c with
  | .own d=>(match d with| .sl sz ds=>k sz ds|_=>False)
  | _=>False)
 | .one (.cut pl sz lo hi)=>(match pl with|⟨a,p,q⟩=>lP rs a p q fun _ c=>match c with
  | .own d=>(match d with| .sl s ds=>BR (Nat.beq s sz) (k sz ((ds.take hi).drop lo)) False|_=>False)
  | _=>False)
 | _=>False
theorem uI {e:List En} {t:TS} {k:Nat→List D→Prop} (h:Ga rs t k):∃ sz ds,mT (aZ n e rs) t=some (sz,ds)∧k sz ds:=by
 unfold Ga at h
 split at h
 split at h
 exact ⟨_,_,rfl,h⟩
 exact h.elim
 rename_i pl
 obtain ⟨m,c,h1,_,h2⟩:=fF (n:=n) (e:=e) h
 split at h2
 split at h2
 exact ⟨_,_,by simp [mT,h1],h2⟩
 exact h2.elim
 exact h2.elim
 rename_i pl sz lo hi
 obtain ⟨a,p,q⟩:=pl
 simp only at h
 obtain ⟨m,c,h1,_,h2⟩:=fF (n:=n) (e:=e) h
 split at h2
 split at h2
 obtain ⟨h3,h5⟩:=bQ h2
 have h6:=ed h3
 exact ⟨_,_,by simp [mT,h1,h6],h5⟩
 exact h2.elim
 exact h2.elim
 exact h.elim
def P_:List D→Nat→(List C→Prop)→Prop
 | _,0,k=>k []
 | [],_ + 1,_=>False
 | d :: l,n + 1,k=>At d fun d=>P_ l n fun l=>k (.ro d :: l)
theorem Ke:∀ {n:Nat} {l:List D} {k:List C→Prop},P_ l n k→n ≤ l.length∧k ((l.take n).map C.ro)
 | 0,l,k,h=>⟨bG _,by cases l <;> exact h⟩
 | n + 1,[],k,h=>h.elim
 | n + 1,d :: l,k,h=>by
  obtain ⟨h1,h2⟩:=Ke (l:=l) (r9.1 h)
  exact ⟨by simp;omega,h2⟩
def Vo (P:Program) (rs:Rs) (t:TypeId) (a:TS) (k:TS→Prop):Prop:=match a with
 | .one (.ptr pl)=>(match pl with|⟨b,p,q⟩=>match wZ P t with
  | some false=>lP rs b p q fun m c=>BR m (NO b p q c fun c=>k (.one (.c c))) False
  | some true=>s_ P t fun s=>P8 rs b p q s fun m l=>BR m (k (.one (.agg l))) False
  | none=>False)
 | .one (.b9 ds)=>(match wZ P t with
  | some false=>(match ds with|d :: _=>At d fun d=>k (.one (.c (.ro d)))| []=>False)
  | some true=>s_ P t fun s=>P_ ds s fun l=>k (.one (.agg l))
  | none=>False)
 | _=>False
theorem Vp {e:List En} {k:TS→Prop} (ho:o.op= .load t x) (hx:T.cH 0 (aZ n e rs) x=some a) (h:Vo P rs t a k):
  ∃ t,eA P w0 g0 o (aZ n e rs) t∧k t:=by
 unfold Vo at h
 split at h
 rename_i pl
 obtain ⟨b,p,q⟩:=pl
 simp only at h
 split at h
 rename_i ht
 obtain ⟨m,c,h1,h2,h3⟩:=fF (n:=n) (e:=e) h
 obtain ⟨h4,h5⟩:=bQ h3
 subst h4
 exact ⟨_, .load ho hx ht h1 h2,Bu h5⟩
 rename_i ht
 obtain ⟨s,h1,h2⟩:=k6 h
 obtain ⟨l,h3,h4⟩:=Kb (n:=n) (e:=e) h2
 obtain ⟨h5,h6⟩:=bQ h4
 exact ⟨_, .XU ho hx ht h1 h3 h5,h6⟩
 exact h.elim
 split at h
 rename_i ht
 split at h
 exact ⟨_, .loadC ho hx ht,r9.1 h⟩
 exact h.elim
 rename_i ht
 obtain ⟨s,h1,h2⟩:=k6 h
 obtain ⟨h3,h4⟩:=Ke h2
 exact ⟨_, .UB ho hx ht h1 h3,h4⟩
 exact h.elim
 exact h.elim
def Vq (P:Program) (s:TypeId) (f:Nat) (k:Nat→Prop):Prop:=match rV P s f with
 | some off=>oneOf off small k
 | none=>False
theorem LD {k:Nat→Prop} (h:Vq P s f k):∃ off,rV P s f=some off∧k off:=by
 unfold Vq at h
 split at h
 rename_i off ho
 exact ⟨off,ho,oo h⟩
 exact h.elim
def Qa (P:Program) (s:TypeId) (f:Nat) (a:TS) (k:TS→Prop):Prop:=match a with
 | .one (.ptr pl)=>(match pl with|⟨b,p,q⟩=>Vq P s f fun off=>oneOf (q + off) small fun q=>k (.one (.ptr ⟨b,p,q⟩)))
 | .one (.b9 ds)=>Vq P s f fun off=>Ka ds off fun ds=>k (.one (.b9 ds))
 | _=>False
theorem Ti {k:TS→Prop} (ho:o.op= .fieldAddr s x f) (hx:T.cH 0 st x=some a) (h:Qa P s f a k):
  ∃ t,eA P w0 g0 o st t∧k t:=by
 unfold Qa at h
 split at h
 obtain ⟨off,h1,h2⟩:=LD h
 exact ⟨_, .field ho hx h1,oo h2⟩
 obtain ⟨off,h1,h2⟩:=LD h
 exact ⟨_, .fieldC ho hx h1,xm h2⟩
 exact h.elim
def Qb {α:Type}:List α→Nat→(List α→Prop)→Prop
 | _,0,k=>k []
 | [],_ + 1,_=>False
 | x :: l,n + 1,k=>Qb l n fun l=>k (x :: l)
theorem Kf {α:Type}:∀ {l:List α} {n:Nat} {k:List α→Prop},Qb l n k→n ≤ l.length∧k (l.take n)
 | l,0,k,h=>⟨bG _,by cases l <;> exact h⟩
 | [],_ + 1,_,h=>h.elim
 | x :: l,n + 1,k,h=>by
  obtain ⟨h1,h2⟩:=Kf (l:=l) h
  exact ⟨by simp;omega,h2⟩
def LF (P:Program) (s:TypeId) (f:Nat) (a:TS) (k:TS→Prop):Prop:=match a with
 | .one (.agg cs)=>(match P.underlying s with
  | some (.struct fs)=>(match fs[f]? with
   | some fl=>(match wZ P fl.type with
    | some false=>sg cs fl.offset fun c=>k (.one (.c c))
    | some true=>(match j6 P fl.type with
     | some n=>BR (Nat.ble (fl.offset + n) cs.length) (Ka cs fl.offset fun l=>Qb l n fun l=>k (.one (.agg l))) False
     | none=>False)
    | none=>False)
   | none=>False)
  | _=>False)
 | _=>False
theorem Qc {k:TS→Prop} (ho:o.op= .field s x f) (hx:T.cH 0 st x=some a) (h:LF P s f a k):
  ∃ t,eA P w0 g0 o st t∧k t:=by
 unfold LF at h
 split at h
 split at h
 rename_i hu
 split at h
 rename_i hf
 split at h
 rename_i ht
 obtain ⟨c,hc,hk⟩:=iK h
 exact ⟨_, .Yn ho hx hu hf ht hc,hk⟩
 rename_i ht
 split at h
 rename_i hn
 obtain ⟨h1,h2⟩:=bQ h
 obtain ⟨_,h3⟩:=Kf (xm h2)
 exact ⟨_, .Yo ho hx hu hf ht hn (fA h1),h3⟩
 exact h.elim
 exact h.elim
 exact h.elim
 exact h.elim
 exact h.elim
def Vr {α:Type}:List α→ α→(List α→Prop)→Prop
 | [],x,k=>k [x]
 | y :: l,x,k=>Vr l x fun l=>k (y :: l)
theorem NR {α:Type}:∀ {l:List α} {x: α} {k:List α→Prop},Vr l x k→k (l ++ [x])
 | [],x,k,h=>h
 | y :: l,x,k,h=>NR (l:=l) h
def Qd (P:Program) (rs:Rs) (t:TypeId) (a b:TS) (k:TS→Prop):Prop:=match b with
 | .one (.c (.ro (.v (.int _ i))))=>(match P.underlying t with
  | some (.slice e)=>s_ P e fun s=>(match a with
   | .one (.c (.ro d))=>(match d with
    | .sl sz ds=>BR (Nat.beq sz s) (IxW ds i fun d=>NM d fun row=>k (.one (.b9 row))) False
    | _=>False)
   | .one (.c (.ref pl))=>(match pl with|⟨b,p,q⟩=>lP rs b p q fun _ c=>match c with
    | .own d=>(match d with
     | .sl sz ds=>BR (Nat.beq sz s) (BndW ds i fun m=>Vr p (q,m) fun p=>k (.one (.ptr ⟨b,p,0⟩))) False
     | _=>False)
    | _=>False)
   | _=>False)
  | _=>False)
 | _=>False
theorem Tj {e:List En} {b:TS} {k:TS→Prop} (ho:o.op= .indexAddr t x y) (hx:T.cH 0 (aZ n e rs) x=some a) (hy:T.cH 0 (aZ n e rs) y=some b) (h:Qd P rs t a b k):
  ∃ t,eA P w0 g0 o (aZ n e rs) t∧k t:=by
 unfold Qd at h
 split at h
 split at h
 rename_i hu
 obtain ⟨s,h1,h2⟩:=k6 h
 split at h2
 split at h2
 obtain ⟨h3,m,d,h4,h5,h6⟩:=bQ h2
 have h3:=ed h3
 subst h3;subst h4
 exact ⟨_, .indexC ho hx hy hu h1 (Int.natCast_nonneg _) h5,yF h6⟩
 exact h2.elim
 obtain ⟨m',c,h3,_,h4⟩:=fF (n:=n) (e:=e) h2
 split at h4
 split at h4
 obtain ⟨h5,m,h6,h7,h8⟩:=bQ h4
 have h5:=ed h5
 subst h5;subst h6
 exact ⟨_, .index ho hx hy hu h1 h3 (Int.natCast_nonneg _) h7,NR h8⟩
 exact h4.elim
 exact h4.elim
 exact h2.elim
 exact h.elim
 exact h.elim
def RE (P:Program) (rs:Rs) (src dst:TypeId) (a:TS) (k:TS→Prop):Prop:=match P.underlying src with
 | some (.int _)=>(match a with
  | .one (.c (.ro (.v (.int ka x))))=>(match P.underlying dst with
   | some (.int k')=>BR (decide (P.intKind dst=k')) (RB k' x fun b=>k (V (.int k' b))) False
   | _=>False)
  | _=>False)
 | some (.slice e)=>(match P.underlying e with
  | some (.int .u8)=>(match P.underlying dst with
   | some .string=>Ga rs a fun sz ds=>BR (Nat.beq sz 1) (NumsW ds fun ns=>k (S (strOfNums ns))) False
   | _=>False)
  | _=>False)
 | _=>False
theorem Vs {e:List En} {src dst:TypeId} {k:TS→Prop} (ho:o.op= .convert src dst x) (hx0:T.cH 0 (aZ n e rs) x=some a) (hx:T.cH 1 (aZ n e rs) x=some a) (h:RE P rs src dst a k):
  ∃ t,eA P w0 g0 o (aZ n e rs) t∧k t:=by
 unfold RE at h
 split at h
 rename_i hs
 split at h
 split at h
 rename_i hd
 obtain ⟨h1,b,h2,h3⟩:=bQ h
 simp only [decide_eq_true_eq] at h1
 exact ⟨_, .conv ho hx0 (by rw [hs];rfl) h1 (by rw [h1];exact hd) h2,h3⟩
 exact h.elim
 exact h.elim
 rename_i hs
 split at h
 rename_i he
 split at h
 rename_i hd
 obtain ⟨sz,ds,h1,h2⟩:=uI (n:=n) (e:=e) h
 obtain ⟨h3,ns,h4,h5⟩:=bQ h2
 have h3:=ed h3
 subst h3;subst h4
 exact ⟨_, .Nr ho hx h1 hs he hd,h5⟩
 exact h.elim
 exact h.elim
 exact h.elim
def Vt (n:Nat) (e:List En) (x:Option Operand) (d:Int) (k:Int→Prop):Prop:=match x with
 | none=>k d
 | some x=>gH n e 0 x fun t=>Ek t k
theorem Fl {e:List En} {x:Option Operand} {d:Int} {k:Int→Prop} (h:Vt n e x d k):∃ i,(∀ y,x=some y→T.cH 0 (aZ n e rs) y=some (I i))∧(x=none→i=d)∧k i:=by
 cases x with
 | none=>exact ⟨d,fun y h=>(by cases h),fun _=>rfl,h⟩
 | some x=>
  obtain ⟨t,h1,h2⟩:=bY (rs:=rs) h
  obtain ⟨i,h3,h4⟩:=pS h2
  subst h3
  exact ⟨i,fun y h=>by cases h;exact h1,fun h=>(by cases h),h4⟩
def cutD (lo hi:Option Operand) (ds:List D) (i j:Nat):List D:=match lo with
 | none=>(match hi with|none=>ds|some _=>ds.take j)
 | some _=>(match hi with|none=>ds.drop i|some _=>(ds.take j).drop i)
inductive CutO (n:Nat) (i j:Int) (k:Nat→Nat→Prop):Prop
 | mk (a b:Nat) (h0:i=a) (h1:j=b) (h2:a < b) (h3:b ≤ n) (c:k a b)
def Qe (P:Program) (n:Nat) (e:List En) (rs:Rs) (ty:TypeId) (a:TS) (lo hi:Option Operand) (k:TS→Prop):Prop:=match P.underlying ty with
 | some .string=>(match a with
  | .one (.c (.ro (.v (.string s))))=>(match lo with
   | some lo=>(match hi with
    | some hi=>gH n e 0 lo fun t=>Ek t fun i=>gH n e 0 hi fun t=>Ek t fun j=>CutW s.size i j fun i j=>k (S (s.extract i j))
    | none=>False)
   | none=>False)
  | _=>False)
 | some (.slice el)=>(match a with
  | .one (.c (.ro d))=>(match d with
   | .sl sz ds=>s_ P el fun s=>BR (Nat.beq sz s) (Vt n e lo 0 fun i=>Vt n e hi ds.length fun j=>CutW ds.length i j fun i j=>k (.one (.c (.ro (.sl sz (cutD lo hi ds i j)))))) False
   | _=>False)
  | .one (.c (.ref pl))=>(match pl with|⟨a,p,q⟩=>lP rs a p q fun _ c=>match c with
   | .own d=>(match d with
    | .sl sz ds=>s_ P el fun s=>BR (Nat.beq sz s) (Vt n e lo 0 fun i=>Vt n e hi ds.length fun j=>CutO ds.length i j fun i j=>k (.one (.cut ⟨a,p,q⟩ sz i j))) False
    | _=>False)
   | _=>False)
  | _=>False)
 | _=>False
theorem Tk {e:List En} {lo hi:Option Operand} {k:TS→Prop} (ho:o.op= .slice ty x lo hi none) (hx:T.cH 0 (aZ n e rs) x=some a) (h:Qe P n e rs ty a lo hi k):
  ∃ t,eA P w0 g0 o (aZ n e rs) t∧k t:=by
 unfold Qe at h
 split at h
 rename_i hu
 split at h
 split at h
 split at h
 obtain ⟨t,h1,h2⟩:=bY (rs:=rs) h
 obtain ⟨i,rfl,h3⟩:=pS h2
 obtain ⟨t,h4,h5⟩:=bY (rs:=rs) h3
 obtain ⟨j,rfl,h6⟩:=pS h5
 obtain ⟨a,b,rfl,rfl,h7,h8,h9⟩:=h6
 exact ⟨_, .sliceS ho hx hu h1 h4 (Int.natCast_nonneg _) (by omega) (by omega),h9⟩
 exact h.elim
 exact h.elim
 exact h.elim
 rename_i hu
 split at h
 split at h
 rename_i sz ds
 obtain ⟨s,h1,h2⟩:=k6 h
 obtain ⟨h3,h4⟩:=bQ h2
 have h3:=ed h3
 subst h3
 obtain ⟨i,h5,h6,h7⟩:=Fl (rs:=rs) h4
 obtain ⟨j,h8,h9,mo⟩:=Fl (rs:=rs) h7
 obtain ⟨a,b,rfl,rfl,qT,h12,rB⟩:=mo
 refine ⟨_, .sliceC ho hx hu h1 h5 (fun h=>by have:=h6 h;omega) h8 (fun h=>by have:=h9 h;omega) qT h12, ?_⟩
 have he:cutD lo hi ds a b=(ds.take b).drop a:=by
  unfold cutD
  split
  have ha:a=0:=by have:=h6 rfl;omega
  subst ha
  split
  have hb:b=ds.length:=by have:=h9 rfl;omega
  subst hb
  simp
  simp
  split
  have hb:b=ds.length:=by have:=h9 rfl;omega
  subst hb
  simp
  rfl
 rw [← he]
 exact rB
 exact h.elim
 rename_i pl
 obtain ⟨a,p,q⟩:=pl
 simp only at h
 obtain ⟨m,c,h1,_,h2⟩:=fF (n:=n) (e:=e) h
 split at h2
 split at h2
 obtain ⟨s,h3,h4⟩:=k6 h2
 obtain ⟨h5,h6⟩:=bQ h4
 have h5:=ed h5
 subst h5
 obtain ⟨i,h7,h8,h9⟩:=Fl (rs:=rs) h6
 obtain ⟨j,mo,qT,h12⟩:=Fl (rs:=rs) h9
 obtain ⟨a',b',rfl,rfl,rB,w8,uJ⟩:=h12
 exact ⟨_, .sliceO ho hx h1 hu h3 h7 (fun h=>by have:=h8 h;omega) mo (fun h=>by have:=qT h;omega) rB w8,uJ⟩
 exact h2.elim
 exact h2.elim
 exact h.elim
 exact h.elim
def zV:Value→Value→Bool
 | .bool a, .bool b=>a == b
 | .int k a, .int k' b=>decide (k=k') && decide (a=b)
 | .string a, .string b=>Nat.beq a.data.size 0 && Nat.beq b.data.size 0
 | .slice none 0 0, .slice none 0 0=>true
 | _,_=>false
theorem zV_eq {a b:Value} (h:zV a b=true):a=b:=by
 unfold zV at h
 split at h
 simp at h;rw [h]
 simp at h;rw [h.1,h.2]
 simp only [bh] at h
 have h1:=ed h.1
 have h2:=ed h.2
 rename_i a b
 congr 1
 apply ByteArray.ext
 rw [Array.eq_empty_of_size_eq_zero h1,Array.eq_empty_of_size_eq_zero h2]
 rfl
 cases h
def Vu:List Value→List D→Bool
 | [],[]=>true
 | z :: zs,d :: ds=>zV z (zeroV d) && tR d && Vu zs ds
 | _,_=>false
theorem Bv:∀ {zs:List Value} {ds:List D},Vu zs ds=true→zs=ds.map zeroV∧ds.all tR=true
 | [],[],_=>⟨rfl,rfl⟩
 | z :: zs,d :: ds,h=>by
  simp only [Vu,bh] at h
  obtain ⟨h1,h2⟩:=Bv h.2
  exact ⟨by rw [List.map_cons,zV_eq h.1.1,h1],by simp [h.1.2];simpa using h2⟩
 | [],_ :: _,h=>by cases h
 | _ :: _,[],h=>by cases h
def Ay (n:Nat) (e:List En):List (Nat×Operand)→(List (Nat×List C)→Prop)→Prop
 | [],k=>k []
 | (i,x) :: l,k=>gH n e 1 x fun t=>match t with
  | .one (.c c)=>(match c with
   | .ro d=>Ay n e l fun l=>k ((i,[.ro d]) :: l)
   | .ref pl=>Ay n e l fun l=>k ((i,[.ref pl]) :: l)
   | _=>False)
  | .one (.agg cs)=>Ay n e l fun l=>k ((i,cs) :: l)
  | _=>False
theorem rP {n:Nat} {e:List En} {rs:Rs}:∀ {l:List (Nat×Operand)} {k:List (Nat×List C)→Prop},Ay n e l k→∃ pc,tU (aZ n e rs) l=some pc∧k pc
 | [],k,h=>⟨[],rfl,h⟩
 | (i,x) :: l,k,h=>by
  obtain ⟨t,h1,h2⟩:=bY (rs:=rs) h
  split at h2
  split at h2
  obtain ⟨pc,h3,h4⟩:=rP (rs:=rs) (l:=l) h2
  exact ⟨_,by simp [tU,JX,h1,h3],h4⟩
  obtain ⟨pc,h3,h4⟩:=rP (rs:=rs) (l:=l) h2
  exact ⟨_,by simp [tU,JX,h1,h3],h4⟩
  exact h2.elim
  obtain ⟨pc,h3,h4⟩:=rP (rs:=rs) (l:=l) h2
  exact ⟨_,by simp [tU,JX,h1,h3],h4⟩
  exact h2.elim
def Fm (P:Program) (t:TypeId) (k:List D→List (Nat×Nat)→Prop):Prop:=match P.underlying t with
 | some (.struct fs)=>(match P.info? t with
  | some it=>(match it.zero with
   | some z=>(match zH P 6 t with
    | some row=>lG row fun row=>BR (Vu z.cells.toList row) (match fs.toList.mapM (fun f=>(P.info? f.type).map fun i=>(f.offset,i.size)) with
     | some pl=>k row pl
     | none=>False) False
    | none=>False)
   | none=>False)
  | none=>False)
 | _=>False
theorem Gb {k:List D→List (Nat×Nat)→Prop} (h:Fm P t k):∃ fs it z row pl,P.underlying t=some (.struct fs)∧P.info? t=some it∧it.zero=some z∧zH P 6 t=some row∧z.cells.toList=row.map zeroV∧row.all tR=true∧
  fs.toList.mapM (fun f=>(P.info? f.type).map fun i=>(f.offset,i.size))=some pl∧k row pl:=by
 unfold Fm at h
 split at h
 rename_i fs h1
 split at h
 rename_i it h2
 split at h
 rename_i z h3
 split at h
 rename_i row h4
 obtain ⟨h5,h6⟩:=bQ (gA.1 h)
 split at h6
 rename_i pl h7
 exact ⟨fs,it,z,row,pl,h1,h2,h3,h4,(Bv h5).1,(Bv h5).2,h7,h6⟩
 exact h6.elim
 exact h.elim
 exact h.elim
 exact h.elim
 exact h.elim
def NS (pl:List (Nat×Nat)) (cs:List C) (pc:List (Nat×List C)) (k:List C→Prop):Prop:=match DL pl cs pc with
 | some cs=>f_ cs k
 | none=>False
theorem Gc {pl:List (Nat×Nat)} {cs:List C} {pc:List (Nat×List C)} {k:List C→Prop} (h:NS pl cs pc k):∃ cs',DL pl cs pc=some cs'∧k cs':=by
 unfold NS at h
 split at h
 rename_i cs' h1
 exact ⟨cs',h1,dK.1 h⟩
 exact h.elim
theorem eA.len2 {P:Program} {w0:World} {g0:Gh} {st:St} {o:Oper} {x:Operand} {t e:TypeId} (ho:o.op= .call { callee:= .builtin .len,args:= #[x],argTypes:= #[t] }) {pl pl2:Pl} {sz:Nat} {ds:List D} (hx:T.cH 0 st x=some (.one (.c (.ref pl)))) (hc:st.cellAt pl=some (.ref pl2)) (hl:mT st (.one (.c (.ref pl2)))=some (sz,ds))
  (hu:P.underlying t=some (.slice e)):eA P w0 g0 o st (I ds.length):=fun a w g hR=>by
 have h1:=hR.cH hx
 have h2:=(hR.cellAt hc).2.1
 have h3:dN w g (.one (.c (.ref pl2))) (a.eval x):=by
  cases h1 with
  | one _ _ h1=>
   cases h1 with
   | c _ _ h1=>exact .one _ _ (.c _ _ ⟨h1.1.trans h2.1,h1.2⟩)
 obtain ⟨ad,c,hv,_⟩:=hR.list hl h3
 refine ⟨.int .i64 ds.length,fun w' hw=> ?_,Aj rfl⟩
 simp [execOp,ho,resolve,invoke,builtin,Builtin.len_,run_underlying hu,hv,goInt]
def lenW (P:Program) (rs:Rs) (t:TypeId) (a:TS) (k:TS→Prop):Prop:=match P.underlying t with
 | some .string=>(match a with
  | .one (.c (.ro (.v (.string s))))=>k (I s.size)
  | _=>False)
 | some (.slice _)=>(match a with
  | .one (.c (.ref pl))=>(match pl with|⟨b,p,q⟩=>lP rs b p q fun _ c=>match c with
   | .own d=>(match d with| .sl _ ds=>Vk ds fun n=>k (I n)| .v _=>False| .st _=>False| .hole=>False)
   | .ref pl2=>Ga rs (.one (.c (.ref pl2))) fun _ ds=>Vk ds fun n=>k (I n)
   | .ro _=>False
   | .dead=>False)
  | _=>Ga rs a fun _ ds=>Vk ds fun n=>k (I n))
 | _=>False
def RF:List TS→(List TV→Prop)→Prop
 | [],k=>k []
 | t :: l,k=>(match t with
  | .one tv=>RF l fun l=>k (tv :: l)
  | _=>False)
theorem NT:∀ {l:List TS} {k:List TV→Prop},RF l k→∃ dm,l=dm.map TS.one∧k dm
 | [],k,h=>⟨[],rfl,h⟩
 | t :: l,k,h=>by
  unfold RF at h
  split at h
  obtain ⟨dm,h1,h2⟩:=NT (l:=l) h
  exact ⟨_ :: dm,by simp [h1],h2⟩
  exact h.elim
def El (P:Program) (n:Nat) (e:List En) (rs:Rs) (op:Op) (k:TS→Prop):Prop:=match op with
 | .move x=>gH n e 1 x k
 | .assign x=>gH n e 1 x k
 | .pick c x y=>gH n e 0 c fun t=>Kc t fun b=>BR b (gH n e 0 x k) (gH n e 0 y k)
 | .load t x=>gH n e 0 x fun a=>Vo P rs t a k
 | .nilCheck x=>gH n e 0 x fun a=>(match a with| .one (.ptr pl)=>k (.one (.ptr pl))|_=>False)
 | .binOp op ty x y _=>gH n e 0 x fun a=>gH n e 0 y fun b=>binW P op ty a b k
 | .unOp op _ x=>gH n e 0 x fun a=>(match op with
  | .not=>Kc a fun b=>k (B (!b))
  | .neg=>Ek a fun i=>P9 i (P9 (-i) (k (I (-i))))
  | _=>False)
 | .convert src dst x=>gH n e 1 x fun a=>RE P rs src dst a k
 | .slice ty x lo hi m=>(match m with|none=>gH n e 0 x fun a=>Qe P n e rs ty a lo hi k|some _=>False)
 | .fieldAddr s x f=>gH n e 0 x fun a=>Qa P s f a k
 | .field s x f=>gH n e 0 x fun a=>LF P s f a k
 | .indexAddr t x y=>gH n e 0 x fun a=>gH n e 0 y fun b=>Qd P rs t a b k
 | .index ty x y=>gH n e 0 x fun a=>gH n e 0 y fun b=>Vm b fun i=>(match P.underlying ty with
  | some .string=>(match a with
   | .one (.c (.ro (.v (.string s))))=>ByteW s i fun b=>k (V (.int .u8 b.toNat))
   | _=>False)
  | _=>False)
 | .extract x i=>gH n e 0 x fun a=>(match a with| .mj ts=>sg ts i fun t=>k (.one t)|_=>False)
 | .build t parts=>Fm P t fun row pl=>Ay n e parts.toList fun pc=>NS pl (row.map C.ro) pc fun cs=>k (.one (.agg cs))
 | .call c=>(match c with
  | ⟨cl,as,ts⟩=>(match cl with
   | .builtin b=>(match as with
    | ⟨as⟩=>(match ts with
     | ⟨ts⟩=>(match b with
      | .len=>(match as,ts with
       | [x],[t]=>gH n e 0 x fun a=>lenW P rs t a k
       | _,_=>False)
      | .min=>(match as,ts with
       | [x,y],[_,_]=>gH n e 0 x fun a=>gH n e 0 y fun b=>Ek a fun a=>Ek b fun b=>k (I (if b < a then b else a))
       | _,_=>False)
      | .max=>(match as,ts with
       | [x,y],[_,_]=>gH n e 0 x fun a=>gH n e 0 y fun b=>Ek a fun a=>Ek b fun b=>k (I (if b > a then b else a))
       | _,_=>False)
      | _=>False)))
   | _=>False))
 | .makeFunc fn first fV=>(match fn with
  | .func f=>(match first with
   | ⟨[]⟩=>(match fV with|⟨cs⟩=>J8 n e cs fun ts=>RF ts fun dm=>k (.fn f dm))
   | _=>False)
  | _=>False)
 | _=>False
theorem opd01 {t:TS} (h:T.cH 1 st x=some t):T.cH 0 st x=some t ∨ ∃ z,t= .one (.c (.ro (.sl z []))):=by
 cases x with
 | const v=>
  simp only [cH] at h ⊢
  split at h
  rename_i hp;rw [if_pos hp];exact .inl h
  rename_i hp
  rw [if_neg hp]
  split at h
  simp only [ea] at h
  exact .inr ⟨1,h.symm⟩
  cases h
 | tmp t=>exact .inl h
 | func f=>exact .inl h
 | global g=>exact .inl h
theorem Fo {e:List En} {k:TS→Prop} (h:El P n e rs o.op k):∃ t,eA P w0 g0 o (aZ n e rs) t∧k t:=by
 generalize ho:o.op=op at h
 unfold El at h
 split at h
 obtain ⟨t,h1,h2⟩:=bY (rs:=rs) h
 exact ⟨t, .move 1 ho h1,h2⟩
 obtain ⟨t,h1,h2⟩:=bY (rs:=rs) h
 exact ⟨t, .assign 1 ho h1,h2⟩
 obtain ⟨t,h1,h2⟩:=bY (rs:=rs) h
 obtain ⟨b,rfl,h3⟩:=F_ h2
 rcases gM.1 h3 with ⟨rfl,h4⟩|⟨rfl,h4⟩
 obtain ⟨t,h5,h6⟩:=bY (rs:=rs) h4
 exact ⟨t, .pick ho h1 (by simpa using h5),h6⟩
 obtain ⟨t,h5,h6⟩:=bY (rs:=rs) h4
 exact ⟨t, .pick ho h1 (by simpa using h5),h6⟩
 obtain ⟨t,h1,h2⟩:=bY (rs:=rs) h
 exact Vp ho h1 h2
 obtain ⟨t,h1,h2⟩:=bY (rs:=rs) h
 split at h2
 exact ⟨_, .nilP ho h1,h2⟩
 exact h2.elim
 obtain ⟨t,h1,h2⟩:=bY (rs:=rs) h
 obtain ⟨t',h3,h4⟩:=bY (rs:=rs) h2
 exact Ym ho h1 h3 h4
 obtain ⟨t,h1,h2⟩:=bY (rs:=rs) h
 split at h2
 obtain ⟨b,rfl,h3⟩:=F_ h2
 exact ⟨_, .not ho h1,h3⟩
 obtain ⟨i,rfl,h3⟩:=pS h2
 exact ⟨_, .neg ho h1 (by have:=h3.c.hi;omega) h3.hi,h3.c.c⟩
 exact h2.elim
 obtain ⟨t,h1,h2⟩:=bY (rs:=rs) h
 rcases opd01 h1 with h3|⟨z,rfl⟩
 exact Vs ho h3 h1 h2
 unfold RE at h2
 split at h2
 exact h2.elim
 rename_i hs
 split at h2
 rename_i he
 split at h2
 rename_i hd
 obtain ⟨sz,ds,h3,h4⟩:=uI (n:=n) (e:=e) h2
 obtain ⟨h5,ns,h6,h7⟩:=bQ h4
 have h5:=ed h5
 subst h5;subst h6
 exact ⟨_, .Nr ho h1 h3 hs he hd,h7⟩
 exact h2.elim
 exact h2.elim
 exact h2.elim
 split at h
 obtain ⟨t,h1,h2⟩:=bY (rs:=rs) h
 exact Tk ho h1 h2
 exact h.elim
 obtain ⟨t,h1,h2⟩:=bY (rs:=rs) h
 exact Ti ho h1 h2
 obtain ⟨t,h1,h2⟩:=bY (rs:=rs) h
 exact Qc ho h1 h2
 obtain ⟨t,h1,h2⟩:=bY (rs:=rs) h
 obtain ⟨t',h3,h4⟩:=bY (rs:=rs) h2
 exact Tj ho h1 h3 h4
 obtain ⟨t,h1,h2⟩:=bY (rs:=rs) h
 obtain ⟨t',h3,h4⟩:=bY (rs:=rs) h2
 obtain ⟨kd,i,rfl,h5⟩:=Vn h4
 split at h5
 rename_i hu
 split at h5
 obtain ⟨m,b,rfl,h6,h7⟩:=h5
 exact ⟨_, .indexA ho h1 h3 hu (Int.natCast_nonneg _) h6,h7⟩
 exact h5.elim
 exact h5.elim
 obtain ⟨t,h1,h2⟩:=bY (rs:=rs) h
 split at h2
 obtain ⟨t,h3,h4⟩:=iK h2
 exact ⟨_, .extract ho h1 h3,h4⟩
 exact h2.elim
 rename_i t parts
 obtain ⟨fs,it,z,row,pl,h1,h2,h3,h4,h5,h6,h7,h8⟩:=Gb h
 obtain ⟨pc,h9,mo⟩:=rP (rs:=rs) h8
 obtain ⟨cs,qT,h12⟩:=Gc mo
 exact ⟨_,eA.build (parts:=parts.toList) (by rw [ho]) h9 h1 h2 h3 h4 h5 h6 h7 qT,h12⟩
 rename_i c
 obtain ⟨cl,⟨as⟩,⟨ts⟩⟩:=c
 simp only at h
 split at h
 split at h
 split at h
 obtain ⟨t,h1,h2⟩:=bY (rs:=rs) h
 unfold lenW at h2
 split at h2
 rename_i hu
 split at h2
 exact ⟨_, .lenS ho h1 hu,h2⟩
 exact h2.elim
 rename_i hu
 split at h2
 rename_i pl
 obtain ⟨b,p,q⟩:=pl
 simp only at h2
 obtain ⟨m,c,h3,_,h4⟩:=fF (n:=n) (e:=e) h2
 split at h4
 split at h4
 rename_i sz ds
 obtain ⟨m,h5,h6⟩:=h4
 subst h5
 have h7:mT (aZ n e rs) (.one (.c (.ref ⟨b,p,q⟩)))=some (sz,ds):=by simp only [mT,h3]
 exact ⟨_, .len ho h1 h7 hu,h6⟩
 exact h4.elim
 exact h4.elim
 exact h4.elim
 obtain ⟨sz,ds,h5,m,h6,h7⟩:=uI (n:=n) (e:=e) h4
 subst h6
 exact ⟨_, .len2 ho h1 h3 h5 hu,h7⟩
 exact h4.elim
 exact h4.elim
 obtain ⟨sz,ds,h3,m,h4,h5⟩:=uI (n:=n) (e:=e) h2
 subst h4
 exact ⟨_, .len ho h1 h3 hu,h5⟩
 exact h2.elim
 exact h.elim
 split at h
 obtain ⟨t,h1,h2⟩:=bY (rs:=rs) h
 obtain ⟨t',h3,h4⟩:=bY (rs:=rs) h2
 obtain ⟨a,rfl,h5⟩:=pS h4
 obtain ⟨b,rfl,h6⟩:=pS h5
 exact ⟨_, .min ho h1 h3,h6⟩
 exact h.elim
 split at h
 obtain ⟨t,h1,h2⟩:=bY (rs:=rs) h
 obtain ⟨t',h3,h4⟩:=bY (rs:=rs) h2
 obtain ⟨a,rfl,h5⟩:=pS h4
 obtain ⟨b,rfl,h6⟩:=pS h5
 exact ⟨_, .max ho h1 h3,h6⟩
 exact h.elim
 exact h.elim
 exact h.elim
 split at h
 split at h
 rename_i fV
 obtain ⟨cs⟩:=fV
 simp only at h
 obtain ⟨ts,h1,h2⟩:=xl (rs:=rs) h
 obtain ⟨dm,h3,h4⟩:=NT h2
 exact ⟨_, .makeFunc ho h1 h3,h4⟩
 exact h.elim
 exact h.elim
 exact h.elim
end
end Go.Proofs.YtdliggkohdnipaaGreat.T
