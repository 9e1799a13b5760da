import Derived.Test.YtdliggkohdnipaaGreatRbr
set_option linter.unusedVariables false
set_option linter.unusedSimpArgs false
namespace Go.Proofs.YtdliggkohdnipaaGreat.T
open Go
section
variable {g0:Gh} {b:Int} {f n:Nat} {o:Oper} {x y:Operand} {P:Program} {rs:Rs} {st:St} {a:TS} {s t t1 t2 ty:TypeId} {w0:World}
section
variable {P:Program} {w0:World} {g0:Gh} {o:Oper} {st:St}
theorem dQ.nilP {x:Operand} (ho:o.op= .nilCheck x) {pl:Pl} (hx:T.cy 0 st x=some (.one (.ptr pl))):dQ P w0 g0 o st (.one (.ptr pl)):=
 fun a w g hR=>by
  have h1:=hR.cy hx
  generalize hv:a.eval x=v at h1
  cases h1 with
  | one _ _ h1=>
   cases h1 with
   | ptr _=>exact ⟨_,fun w' _=>by simp [execOp,ho,hv], .one _ _ (.ptr pl)⟩
theorem dQ.ZL {s:ByteArray} {kd:IntKind} {i:Int} {b:UInt8} (ho:o.op= .index ty x y) (hx:T.cy 0 st x=some (S s)) (hy:T.cy 0 st y=some (V (.int kd i))) (hu:P.underlying ty=some .string) (h0:0 ≤ i) (hb:s[i.toNat]? = some b):
  dQ P w0 g0 o st (V (.int .u8 b.toNat)):=
 fun a w g hR=>⟨.int .u8 b.toNat,fun w' _=>by
  simp [execOp,ho,hR.val hx,hR.val hy,Instr.index,run_underlying hu,asIntOf,h0,hb],yw rfl⟩
theorem dQ.WK {s:TypeId} {f:Nat} {x:Operand} {cs:List C} {fs:Array Field} {fl:Field} {c:C} (ho:o.op= .field s x f) (hx:T.cy 0 st x=some (.one (.agg cs))) (hu:P.underlying s=some (.struct fs)) (hf:fs[f]? = some fl) (ht:u9 P fl.type=some false) (hc:cs[fl.offset]? = some c):
  dQ P w0 g0 o st (.one (.c c)):=fun a w g hR=>by
 have h1:=hR.cy hx
 generalize hv:a.eval x=v at h1
 cases h1 with
 | one _ _ h1=>
  cases h1 with
  | agg _ us hs h=>
   obtain ⟨u,Ss⟩:∃ u,us[fl.offset]? = some u:=⟨_,Array.getElem?_eq_getElem (by rw [hs];exact (List.getElem?_eq_some_iff.1 hc).1)⟩
   refine ⟨u,fun w' hw=> ?_, .one _ _ (.c _ _ (h _ _ _ hc Ss))⟩
   simp [execOp,ho,hv,Instr.field,run_underlying hu,hf,asAgg,part,gO ht,Ss]
theorem dQ.WM {s:TypeId} {f n:Nat} {x:Operand} {cs:List C} {fs:Array Field} {fl:Field} (ho:o.op= .field s x f) (hx:T.cy 0 st x=some (.one (.agg cs))) (hu:P.underlying s=some (.struct fs)) (hf:fs[f]? = some fl) (ht:u9 P fl.type=some true) (hn:jm P fl.type=some n) (hl:fl.offset + n ≤ cs.length):
  dQ P w0 g0 o st (.one (.agg ((cs.drop fl.offset).take n))):=fun a w g hR=>by
 have h1:=hR.cy hx
 generalize hv:a.eval x=v at h1
 cases h1 with
 | one _ _ h1=>
  cases h1 with
  | agg _ us hs h=>
   refine ⟨.agg (us.extract fl.offset (fl.offset + n)),fun w' hw=> ?_, .one _ _ (.agg _ _ (by simp;omega) fun j c u hc Ss=> ?_)⟩
   simp [execOp,ho,hv,Instr.field,run_underlying hu,hf,asAgg,part,gO ht,cU hn]
   rw [List.getElem?_take,List.getElem?_drop] at hc
   rw [Array.getElem?_extract] at Ss
   split at hc
   split at Ss
   exact h _ _ _ hc Ss
   cases Ss
   cases hc
theorem dQ.min {a:Int} (ho:o.op= .call { callee:= .builtin .min,args:= #[x,y],argTypes:= #[t1,t2] }) (hx:T.cy 0 st x=some (I a)) (hy:T.cy 0 st y=some (I b)):dQ P w0 g0 o st (I (if b < a then b else a)):=
 fun s w g hR=>⟨.int .i64 (if b < a then b else a),fun w' _=>by simp [execOp,ho,resolve,invoke,builtin,Builtin.min_,Builtin.min2,hR.val hx,hR.val hy],yw rfl⟩
theorem dQ.max {a:Int} (ho:o.op= .call { callee:= .builtin .max,args:= #[x,y],argTypes:= #[t1,t2] }) (hx:T.cy 0 st x=some (I a)) (hy:T.cy 0 st y=some (I b)):dQ P w0 g0 o st (I (if b > a then b else a)):=
 fun s w g hR=>⟨.int .i64 (if b > a then b else a),fun w' _=>by simp [execOp,ho,resolve,invoke,builtin,Builtin.max_,Builtin.max2,hR.val hx,hR.val hy],yw rfl⟩
end
def rF (P:Program) (t:TypeId) (k:Nat→Prop):Prop:=match P.info? t with
 | some i=>oneOf i.size small k
 | none=>False
theorem j5 {k:Nat→Prop} (h:rF P t k):∃ s,jm P t=some s∧k s:=by
 unfold rF at h
 split at h
 rename_i i hi
 exact ⟨i.size,by simp [jm,hi],mX h⟩
 exact h.elim
def IC (t:TS) (k:Bool→Prop):Prop:=match t with
 | .one (.c (.ro (.v (.bool b))))=>k b
 | _=>False
theorem EA {t:TS} {k:Bool→Prop} (h:IC t k):∃ b,t=B b∧k b:=by
 unfold IC at h
 split at h
 exact ⟨_,rfl,h⟩
 exact h.elim
def C0 (t:TS) (k:Int→Prop):Prop:=match t with
 | .one (.c (.ro (.v (.int kd n))))=>BR (decide (kd= .i64)) (k n) False
 | _=>False
theorem od {t:TS} {k:Int→Prop} (h:C0 t k):∃ n,t=I n∧k n:=by
 unfold C0 at h
 split at h
 obtain ⟨h1,h2⟩:=bG h
 simp only [decide_eq_true_eq] at h1
 subst h1
 exact ⟨_,rfl,h2⟩
 exact h.elim
def Ts (t:TS) (k:Int→Prop):Prop:=match t with
 | .one (.c (.ro (.v (.int _ n))))=>k n
 | _=>False
theorem Tt {t:TS} {k:Int→Prop} (h:Ts t k):∃ kd n,t=V (.int kd n)∧k n:=by
 unfold Ts at h
 split at h
 exact ⟨_,_,rfl,h⟩
 exact h.elim
def EB (rs:Rs) (t:TS) (k:Nat→List D→Prop):Prop:=match t with
 | .one (.c (.ro d))=>(match d with| .sl sz ds=>k sz ds|_=>False)
 | .one (.c (.ref pl))=>(match pl with|⟨a,p,q⟩=>kE rs a p q fun _ c=>match c with
  | .own d=>(match d with| .sl sz ds=>k sz ds|_=>False)
  | _=>False)
 | .one (.cut pl sz lo hi)=>(match pl with|⟨a,p,q⟩=>kE rs a p q fun _ c=>match c with
  | .own d=>(match d with| .sl s ds=>BR (Nat.beq s sz) (k sz ((ds.take hi).drop lo)) False|_=>False)
  | _=>False)
 | _=>False
theorem sV {e:List En} {t:TS} {k:Nat→List D→Prop} (h:EB rs t k):∃ sz ds,lu (aR n e rs) t=some (sz,ds)∧k sz ds:=by
 unfold EB at h
 split at h
 split at h
 exact ⟨_,_,rfl,h⟩
 exact h.elim
 rename_i pl
 obtain ⟨m,c,h1,_,h2⟩:=eU (n:=n) (e:=e) h
 split at h2
 split at h2
 exact ⟨_,_,by simp [lu,h1],h2⟩
 exact h2.elim
 exact h2.elim
 rename_i pl sz lo hi
 obtain ⟨a,p,q⟩:=pl
 simp only at h
 obtain ⟨m,c,h1,_,h2⟩:=eU (n:=n) (e:=e) h
 split at h2
 split at h2
 obtain ⟨h3,h5⟩:=bG h2
 have h6:=Nat.eq_of_beq_eq_true h3
 exact ⟨_,_,by simp [lu,h1,h6],h5⟩
 exact h2.elim
 exact h2.elim
 exact h.elim
def Oy:List D→Nat→(List C→Prop)→Prop
 | _,0,k=>k []
 | [],_ + 1,_=>False
 | d :: l,n + 1,k=>yF d fun d=>Oy l n fun l=>k (.ro d :: l)
theorem ID:∀ {n:Nat} {l:List D} {k:List C→Prop},Oy l n k→n ≤ l.length∧k ((l.take n).map C.ro)
 | 0,l,k,h=>⟨Nat.zero_le _,by cases l <;> exact h⟩
 | n + 1,[],k,h=>h.elim
 | n + 1,d :: l,k,h=>by
  obtain ⟨h1,h2⟩:=ID (l:=l) (qA.1 h)
  exact ⟨by simp;omega,h2⟩
def Tu (P:Program) (rs:Rs) (t:TypeId) (a:TS) (k:TS→Prop):Prop:=match a with
 | .one (.ptr pl)=>(match pl with|⟨b,p,q⟩=>match u9 P t with
  | some false=>kE rs b p q fun m c=>BR m (Mk b p q c fun c=>k (.one (.c c))) False
  | some true=>rF P t fun s=>Ov rs b p q s fun m l=>BR m (k (.one (.agg l))) False
  | none=>False)
 | .one (.bV ds)=>(match u9 P t with
  | some false=>(match ds with|d :: _=>yF d fun d=>k (.one (.c (.ro d)))| []=>False)
  | some true=>rF P t fun s=>Oy ds s fun l=>k (.one (.agg l))
  | none=>False)
 | _=>False
theorem Tv {e:List En} {k:TS→Prop} (ho:o.op= .load t x) (hx:T.cy 0 (aR n e rs) x=some a) (h:Tu P rs t a k):
  ∃ t,dQ P w0 g0 o (aR n e rs) t∧k t:=by
 unfold Tu at h
 split at h
 rename_i pl
 obtain ⟨b,p,q⟩:=pl
 simp only at h
 split at h
 rename_i ht
 obtain ⟨m,c,h1,h2,h3⟩:=eU (n:=n) (e:=e) h
 obtain ⟨h4,h5⟩:=bG h3
 subst h4
 exact ⟨_, .load ho hx ht h1 h2,zW h5⟩
 rename_i ht
 obtain ⟨s,h1,h2⟩:=j5 h
 obtain ⟨l,h3,h4⟩:=IB (n:=n) (e:=e) h2
 obtain ⟨h5,h6⟩:=bG h4
 exact ⟨_, .We ho hx ht h1 h3 h5,h6⟩
 exact h.elim
 split at h
 rename_i ht
 split at h
 exact ⟨_, .loadC ho hx ht,qA.1 h⟩
 exact h.elim
 rename_i ht
 obtain ⟨s,h1,h2⟩:=j5 h
 obtain ⟨h3,h4⟩:=ID h2
 exact ⟨_, .SI ho hx ht h1 h3,h4⟩
 exact h.elim
 exact h.elim
def Tw (P:Program) (s:TypeId) (f:Nat) (k:Nat→Prop):Prop:=match p_ P s f with
 | some off=>oneOf off small k
 | none=>False
theorem JZ {k:Nat→Prop} (h:Tw P s f k):∃ off,p_ P s f=some off∧k off:=by
 unfold Tw at h
 split at h
 rename_i off ho
 exact ⟨off,ho,mX h⟩
 exact h.elim
def Oz (P:Program) (s:TypeId) (f:Nat) (a:TS) (k:TS→Prop):Prop:=match a with
 | .one (.ptr pl)=>(match pl with|⟨b,p,q⟩=>Tw P s f fun off=>oneOf (q + off) small fun q=>k (.one (.ptr ⟨b,p,q⟩)))
 | .one (.bV ds)=>Tw P s f fun off=>IA ds off fun ds=>k (.one (.bV ds))
 | _=>False
theorem Ry {k:TS→Prop} (ho:o.op= .fieldAddr s x f) (hx:T.cy 0 st x=some a) (h:Oz P s f a k):
  ∃ t,dQ P w0 g0 o st t∧k t:=by
 unfold Oz at h
 split at h
 obtain ⟨off,h1,h2⟩:=JZ h
 exact ⟨_, .field ho hx h1,mX h2⟩
 obtain ⟨off,h1,h2⟩:=JZ h
 exact ⟨_, .YX ho hx h1,vo h2⟩
 exact h.elim
def OA {α:Type}:List α→Nat→(List α→Prop)→Prop
 | _,0,k=>k []
 | [],_ + 1,_=>False
 | x :: l,n + 1,k=>OA l n fun l=>k (x :: l)
theorem IE {α:Type}:∀ {l:List α} {n:Nat} {k:List α→Prop},OA l n k→n ≤ l.length∧k (l.take n)
 | l,0,k,h=>⟨Nat.zero_le _,by cases l <;> exact h⟩
 | [],_ + 1,_,h=>h.elim
 | x :: l,n + 1,k,h=>by
  obtain ⟨h1,h2⟩:=IE (l:=l) h
  exact ⟨by simp;omega,h2⟩
def J0 (P:Program) (s:TypeId) (f:Nat) (a:TS) (k:TS→Prop):Prop:=match a with
 | .one (.agg cs)=>(match P.underlying s with
  | some (.struct fs)=>(match fs[f]? with
   | some fl=>(match u9 P fl.type with
    | some false=>qD cs fl.offset fun c=>k (.one (.c c))
    | some true=>(match jm P fl.type with
     | some n=>BR (Nat.ble (fl.offset + n) cs.length) (IA cs fl.offset fun l=>OA l n fun l=>k (.one (.agg l))) False
     | none=>False)
    | none=>False)
   | none=>False)
  | _=>False)
 | _=>False
theorem OB {k:TS→Prop} (ho:o.op= .field s x f) (hx:T.cy 0 st x=some a) (h:J0 P s f a k):
  ∃ t,dQ P w0 g0 o st t∧k t:=by
 unfold J0 at h
 split at h
 split at h
 rename_i hu
 split at h
 rename_i hf
 split at h
 rename_i ht
 obtain ⟨c,hc,hk⟩:=hJ h
 exact ⟨_, .WK ho hx hu hf ht hc,hk⟩
 rename_i ht
 split at h
 rename_i hn
 obtain ⟨h1,h2⟩:=bG h
 obtain ⟨_,h3⟩:=IE (vo h2)
 exact ⟨_, .WM ho hx hu hf ht hn (Nat.le_of_ble_eq_true h1),h3⟩
 exact h.elim
 exact h.elim
 exact h.elim
 exact h.elim
 exact h.elim
def Tx {α:Type}:List α→ α→(List α→Prop)→Prop
 | [],x,k=>k [x]
 | y :: l,x,k=>Tx l x fun l=>k (y :: l)
theorem Mn {α:Type}:∀ {l:List α} {x: α} {k:List α→Prop},Tx l x k→k (l ++ [x])
 | [],x,k,h=>h
 | y :: l,x,k,h=>Mn (l:=l) h
def OC (P:Program) (rs:Rs) (t:TypeId) (a b:TS) (k:TS→Prop):Prop:=match b with
 | .one (.c (.ro (.v (.int _ i))))=>(match P.underlying t with
  | some (.slice e)=>rF P e fun s=>(match a with
   | .one (.c (.ro d))=>(match d with
    | .sl sz ds=>BR (Nat.beq sz s) (IxW ds i fun d=>Mi d fun row=>k (.one (.bV row))) False
    | _=>False)
   | .one (.c (.ref pl))=>(match pl with|⟨b,p,q⟩=>kE rs b p q fun _ c=>match c with
    | .own d=>(match d with
     | .sl sz ds=>BR (Nat.beq sz s) (ZE ds i fun m=>Tx p (q,m) fun p=>k (.one (.ptr ⟨b,p,0⟩))) False
     | _=>False)
    | _=>False)
   | _=>False)
  | _=>False)
 | _=>False
theorem Rz {e:List En} {b:TS} {k:TS→Prop} (ho:o.op= .indexAddr t x y) (hx:T.cy 0 (aR n e rs) x=some a) (hy:T.cy 0 (aR n e rs) y=some b) (h:OC P rs t a b k):
  ∃ t,dQ P w0 g0 o (aR n e rs) t∧k t:=by
 unfold OC at h
 split at h
 split at h
 rename_i hu
 obtain ⟨s,h1,h2⟩:=j5 h
 split at h2
 split at h2
 obtain ⟨h3,m,d,h4,h5,h6⟩:=bG h2
 have h3:=Nat.eq_of_beq_eq_true h3
 subst h3;subst h4
 exact ⟨_, .YY ho hx hy hu h1 (Int.natCast_nonneg _) h5,wK h6⟩
 exact h2.elim
 obtain ⟨m',c,h3,_,h4⟩:=eU (n:=n) (e:=e) h2
 split at h4
 split at h4
 obtain ⟨h5,m,h6,h7,h8⟩:=bG h4
 have h5:=Nat.eq_of_beq_eq_true h5
 subst h5;subst h6
 exact ⟨_, .index ho hx hy hu h1 h3 (Int.natCast_nonneg _) h7,Mn h8⟩
 exact h4.elim
 exact h4.elim
 exact h2.elim
 exact h.elim
 exact h.elim
def Qb (P:Program) (rs:Rs) (src dst:TypeId) (a:TS) (k:TS→Prop):Prop:=match P.underlying src with
 | some (.int _)=>(match a with
  | .one (.c (.ro (.v (.int ka x))))=>(match P.underlying dst with
   | some (.int k')=>BR (decide (P.intKind dst=k')) (Qa k' x fun b=>k (V (.int k' b))) False
   | _=>False)
  | _=>False)
 | some (.slice e)=>(match P.underlying e with
  | some (.int .u8)=>(match P.underlying dst with
   | some .string=>EB rs a fun sz ds=>BR (Nat.beq sz 1) (NumsW ds fun ns=>k (S (strOfNums ns))) False
   | _=>False)
  | _=>False)
 | _=>False
theorem Tz {e:List En} {src dst:TypeId} {k:TS→Prop} (ho:o.op= .convert src dst x) (hx0:T.cy 0 (aR n e rs) x=some a) (hx:T.cy 1 (aR n e rs) x=some a) (h:Qb P rs src dst a k):
  ∃ t,dQ P w0 g0 o (aR n e rs) t∧k t:=by
 unfold Qb at h
 split at h
 rename_i hs
 split at h
 split at h
 rename_i hd
 obtain ⟨h1,b,h2,h3⟩:=bG h
 simp only [decide_eq_true_eq] at h1
 exact ⟨_, .conv ho hx0 (by rw [hs];rfl) h1 (by rw [h1];exact hd) h2,h3⟩
 exact h.elim
 exact h.elim
 rename_i hs
 split at h
 rename_i he
 split at h
 rename_i hd
 obtain ⟨sz,ds,h1,h2⟩:=sV (n:=n) (e:=e) h
 obtain ⟨h3,ns,h4,h5⟩:=bG h2
 have h3:=Nat.eq_of_beq_eq_true h3
 subst h3;subst h4
 exact ⟨_, .LY ho hx h1 hs he hd,h5⟩
 exact h.elim
 exact h.elim
 exact h.elim
def TB (n:Nat) (e:List En) (x:Option Operand) (d:Int) (k:Int→Prop):Prop:=match x with
 | none=>k d
 | some x=>fT n e 0 x fun t=>C0 t k
theorem DM {e:List En} {x:Option Operand} {d:Int} {k:Int→Prop} (h:TB n e x d k):∃ i,(∀ y,x=some y→T.cy 0 (aR n e rs) y=some (I i))∧(x=none→i=d)∧k i:=by
 cases x with
 | none=>exact ⟨d,fun y h=>(by cases h),fun _=>rfl,h⟩
 | some x=>
  obtain ⟨t,h1,h2⟩:=bR (rs:=rs) h
  obtain ⟨i,h3,h4⟩:=od h2
  subst h3
  exact ⟨i,fun y h=>by cases h;exact h1,fun h=>(by cases h),h4⟩
def ZM (lo hi:Option Operand) (ds:List D) (i j:Nat):List D:=match lo with
 | none=>(match hi with|none=>ds|some _=>ds.take j)
 | some _=>(match hi with|none=>ds.drop i|some _=>(ds.take j).drop i)
inductive CutO (n:Nat) (i j:Int) (k:Nat→Nat→Prop):Prop
 | mk (a b:Nat) (h0:i=a) (h1:j=b) (h2:a < b) (h3:b ≤ n) (c:k a b)
def OD (P:Program) (n:Nat) (e:List En) (rs:Rs) (ty:TypeId) (a:TS) (lo hi:Option Operand) (k:TS→Prop):Prop:=match P.underlying ty with
 | some .string=>(match a with
  | .one (.c (.ro (.v (.string s))))=>(match lo with
   | some lo=>(match hi with
    | some hi=>fT n e 0 lo fun t=>C0 t fun i=>fT n e 0 hi fun t=>C0 t fun j=>ZF s.size i j fun i j=>k (S (s.extract i j))
    | none=>False)
   | none=>False)
  | _=>False)
 | some (.slice el)=>(match a with
  | .one (.c (.ro d))=>(match d with
   | .sl sz ds=>rF P el fun s=>BR (Nat.beq sz s) (TB n e lo 0 fun i=>TB n e hi ds.length fun j=>ZF ds.length i j fun i j=>k (.one (.c (.ro (.sl sz (ZM lo hi ds i j)))))) False
   | _=>False)
  | .one (.c (.ref pl))=>(match pl with|⟨a,p,q⟩=>kE rs a p q fun _ c=>match c with
   | .own d=>(match d with
    | .sl sz ds=>rF P el fun s=>BR (Nat.beq sz s) (TB n e lo 0 fun i=>TB n e hi ds.length fun j=>CutO ds.length i j fun i j=>k (.one (.cut ⟨a,p,q⟩ sz i j))) False
    | _=>False)
   | _=>False)
  | _=>False)
 | _=>False
theorem RA {e:List En} {lo hi:Option Operand} {k:TS→Prop} (ho:o.op= .slice ty x lo hi none) (hx:T.cy 0 (aR n e rs) x=some a) (h:OD P n e rs ty a lo hi k):
  ∃ t,dQ P w0 g0 o (aR n e rs) t∧k t:=by
 unfold OD at h
 split at h
 rename_i hu
 split at h
 split at h
 split at h
 obtain ⟨t,h1,h2⟩:=bR (rs:=rs) h
 obtain ⟨i,rfl,h3⟩:=od h2
 obtain ⟨t,h4,h5⟩:=bR (rs:=rs) h3
 obtain ⟨j,rfl,h6⟩:=od h5
 obtain ⟨a,b,rfl,rfl,h7,h8,h9⟩:=h6
 exact ⟨_, .Zh ho hx hu h1 h4 (Int.natCast_nonneg _) (by omega) (by omega),h9⟩
 exact h.elim
 exact h.elim
 exact h.elim
 rename_i hu
 split at h
 split at h
 rename_i sz ds
 obtain ⟨s,h1,h2⟩:=j5 h
 obtain ⟨h3,h4⟩:=bG h2
 have h3:=Nat.eq_of_beq_eq_true h3
 subst h3
 obtain ⟨i,h5,h6,h7⟩:=DM (rs:=rs) h4
 obtain ⟨j,h8,h9,kU⟩:=DM (rs:=rs) h7
 obtain ⟨a,b,rfl,rfl,oW,h12,pL⟩:=kU
 refine ⟨_, .ZI ho hx hu h1 h5 (fun h=>by have:=h6 h;omega) h8 (fun h=>by have:=h9 h;omega) oW h12, ?_⟩
 have he:ZM lo hi ds a b=(ds.take b).drop a:=by
  unfold ZM
  split
  have ha:a=0:=by have:=h6 rfl;omega
  subst ha
  split
  have hb:b=ds.length:=by have:=h9 rfl;omega
  subst hb
  simp
  simp
  split
  have hb:b=ds.length:=by have:=h9 rfl;omega
  subst hb
  simp
  rfl
 rw [← he]
 exact pL
 exact h.elim
 rename_i pl
 obtain ⟨a,p,q⟩:=pl
 simp only at h
 obtain ⟨m,c,h1,_,h2⟩:=eU (n:=n) (e:=e) h
 split at h2
 split at h2
 obtain ⟨s,h3,h4⟩:=j5 h2
 obtain ⟨h5,h6⟩:=bG h4
 have h5:=Nat.eq_of_beq_eq_true h5
 subst h5
 obtain ⟨i,h7,h8,h9⟩:=DM (rs:=rs) h6
 obtain ⟨j,kU,oW,h12⟩:=DM (rs:=rs) h9
 obtain ⟨a',b',rfl,rfl,pL,vc,sW⟩:=h12
 exact ⟨_, .ZK ho hx h1 hu h3 h7 (fun h=>by have:=h8 h;omega) kU (fun h=>by have:=oW h;omega) pL vc,sW⟩
 exact h2.elim
 exact h2.elim
 exact h.elim
 exact h.elim
def zV:Value→Value→Bool
 | .bool a, .bool b=>a == b
 | .int k a, .int k' b=>decide (k=k') && decide (a=b)
 | .string a, .string b=>Nat.beq a.data.size 0 && Nat.beq b.data.size 0
 | .slice none 0 0, .slice none 0 0=>true
 | _,_=>false
theorem zV_eq {a b:Value} (h:zV a b=true):a=b:=by
 unfold zV at h
 split at h
 simp at h;rw [h]
 simp at h;rw [h.1,h.2]
 simp only [Bool.and_eq_true] at h
 have h1:=Nat.eq_of_beq_eq_true h.1
 have h2:=Nat.eq_of_beq_eq_true h.2
 rename_i a b
 congr 1
 apply ByteArray.ext
 rw [Array.eq_empty_of_size_eq_zero h1,Array.eq_empty_of_size_eq_zero h2]
 rfl
 cases h
def TD:List Value→List D→Bool
 | [],[]=>true
 | z :: zs,d :: ds=>zV z (zeroV d) && r9 d && TD zs ds
 | _,_=>false
theorem zX:∀ {zs:List Value} {ds:List D},TD zs ds=true→zs=ds.map zeroV∧ds.all r9=true
 | [],[],_=>⟨rfl,rfl⟩
 | z :: zs,d :: ds,h=>by
  simp only [TD,Bool.and_eq_true] at h
  obtain ⟨h1,h2⟩:=zX h.2
  exact ⟨by rw [List.map_cons,zV_eq h.1.1,h1],by simp [h.1.2];simpa using h2⟩
 | [],_ :: _,h=>by cases h
 | _ :: _,[],h=>by cases h
def yJ (n:Nat) (e:List En):List (Nat×Operand)→(List (Nat×List C)→Prop)→Prop
 | [],k=>k []
 | (i,x) :: l,k=>fT n e 1 x fun t=>match t with
  | .one (.c c)=>(match c with
   | .ro d=>yJ n e l fun l=>k ((i,[.ro d]) :: l)
   | .ref pl=>yJ n e l fun l=>k ((i,[.ref pl]) :: l)
   | _=>False)
  | .one (.agg cs)=>yJ n e l fun l=>k ((i,cs) :: l)
  | _=>False
theorem p6 {n:Nat} {e:List En} {rs:Rs}:∀ {l:List (Nat×Operand)} {k:List (Nat×List C)→Prop},yJ n e l k→∃ pc,r_ (aR n e rs) l=some pc∧k pc
 | [],k,h=>⟨[],rfl,h⟩
 | (i,x) :: l,k,h=>by
  obtain ⟨t,h1,h2⟩:=bR (rs:=rs) h
  split at h2
  split at h2
  obtain ⟨pc,h3,h4⟩:=p6 (rs:=rs) (l:=l) h2
  exact ⟨_,by simp [r_,Iq,h1,h3],h4⟩
  obtain ⟨pc,h3,h4⟩:=p6 (rs:=rs) (l:=l) h2
  exact ⟨_,by simp [r_,Iq,h1,h3],h4⟩
  exact h2.elim
  obtain ⟨pc,h3,h4⟩:=p6 (rs:=rs) (l:=l) h2
  exact ⟨_,by simp [r_,Iq,h1,h3],h4⟩
  exact h2.elim
def DN (P:Program) (t:TypeId) (k:List D→List (Nat×Nat)→Prop):Prop:=match P.underlying t with
 | some (.struct fs)=>(match P.info? t with
  | some it=>(match it.zero with
   | some z=>(match xR P 6 t with
    | some row=>kv row fun row=>BR (TD z.cells.toList row) (match fs.toList.mapM (fun f=>(P.info? f.type).map fun i=>(f.offset,i.size)) with
     | some pl=>k row pl
     | none=>False) False
    | none=>False)
   | none=>False)
  | none=>False)
 | _=>False
theorem EC {k:List D→List (Nat×Nat)→Prop} (h:DN P t k):∃ fs it z row pl,P.underlying t=some (.struct fs)∧P.info? t=some it∧it.zero=some z∧xR P 6 t=some row∧z.cells.toList=row.map zeroV∧row.all r9=true∧
  fs.toList.mapM (fun f=>(P.info? f.type).map fun i=>(f.offset,i.size))=some pl∧k row pl:=by
 unfold DN at h
 split at h
 rename_i fs h1
 split at h
 rename_i it h2
 split at h
 rename_i z h3
 split at h
 rename_i row h4
 obtain ⟨h5,h6⟩:=bG (fM.1 h)
 split at h6
 rename_i pl h7
 exact ⟨fs,it,z,row,pl,h1,h2,h3,h4,(zX h5).1,(zX h5).2,h7,h6⟩
 exact h6.elim
 exact h.elim
 exact h.elim
 exact h.elim
 exact h.elim
def Mo (pl:List (Nat×Nat)) (cs:List C) (pc:List (Nat×List C)) (k:List C→Prop):Prop:=match Co pl cs pc with
 | some cs=>fu cs k
 | none=>False
theorem ED {pl:List (Nat×Nat)} {cs:List C} {pc:List (Nat×List C)} {k:List C→Prop} (h:Mo pl cs pc k):∃ cs',Co pl cs pc=some cs'∧k cs':=by
 unfold Mo at h
 split at h
 rename_i cs' h1
 exact ⟨cs',h1,dw.1 h⟩
 exact h.elim
theorem dQ.len2 {P:Program} {w0:World} {g0:Gh} {st:St} {o:Oper} {x:Operand} {t e:TypeId} (ho:o.op= .call { callee:= .builtin .len,args:= #[x],argTypes:= #[t] }) {pl pl2:Pl} {sz:Nat} {ds:List D} (hx:T.cy 0 st x=some (.one (.c (.ref pl)))) (hc:st.cellAt pl=some (.ref pl2)) (hl:lu st (.one (.c (.ref pl2)))=some (sz,ds))
  (hu:P.underlying t=some (.slice e)):dQ P w0 g0 o st (I ds.length):=fun a w g hR=>by
 have h1:=hR.cy hx
 have h2:=(hR.cellAt hc).2.1
 have h3:dy w g (.one (.c (.ref pl2))) (a.eval x):=by
  cases h1 with
  | one _ _ h1=>
   cases h1 with
   | c _ _ h1=>exact .one _ _ (.c _ _ ⟨h1.1.trans h2.1,h1.2⟩)
 obtain ⟨ad,c,hv,_⟩:=hR.list hl h3
 refine ⟨.int .i64 ds.length,fun w' hw=> ?_,yw rfl⟩
 simp [execOp,ho,resolve,invoke,builtin,Builtin.len_,run_underlying hu,hv,goInt]
def lenW (P:Program) (rs:Rs) (t:TypeId) (a:TS) (k:TS→Prop):Prop:=match P.underlying t with
 | some .string=>(match a with
  | .one (.c (.ro (.v (.string s))))=>k (I s.size)
  | _=>False)
 | some (.slice _)=>(match a with
  | .one (.c (.ref pl))=>(match pl with|⟨b,p,q⟩=>kE rs b p q fun _ c=>match c with
   | .own d=>(match d with| .sl _ ds=>Tq ds fun n=>k (I n)| .v _=>False| .st _=>False| .hole=>False)
   | .ref pl2=>EB rs (.one (.c (.ref pl2))) fun _ ds=>Tq ds fun n=>k (I n)
   | .ro _=>False
   | .dead=>False)
  | _=>EB rs a fun _ ds=>Tq ds fun n=>k (I n))
 | _=>False
def Qc:List TS→(List TV→Prop)→Prop
 | [],k=>k []
 | t :: l,k=>(match t with
  | .one tv=>Qc l fun l=>k (tv :: l)
  | _=>False)
theorem Mp:∀ {l:List TS} {k:List TV→Prop},Qc l k→∃ cZ,l=cZ.map TS.one∧k cZ
 | [],k,h=>⟨[],rfl,h⟩
 | t :: l,k,h=>by
  unfold Qc at h
  split at h
  obtain ⟨cZ,h1,h2⟩:=Mp (l:=l) h
  exact ⟨_ :: cZ,by simp [h1],h2⟩
  exact h.elim
def C1 (P:Program) (n:Nat) (e:List En) (rs:Rs) (op:Op) (k:TS→Prop):Prop:=match op with
 | .move x=>fT n e 1 x k
 | .assign x=>fT n e 1 x k
 | .pick c x y=>fT n e 0 c fun t=>IC t fun b=>BR b (fT n e 0 x k) (fT n e 0 y k)
 | .load t x=>fT n e 0 x fun a=>Tu P rs t a k
 | .nilCheck x=>fT n e 0 x fun a=>(match a with| .one (.ptr pl)=>k (.one (.ptr pl))|_=>False)
 | .binOp op ty x y _=>fT n e 0 x fun a=>fT n e 0 y fun b=>ZH P op ty a b k
 | .unOp op _ x=>fT n e 0 x fun a=>(match op with
  | .not=>IC a fun b=>k (B (!b))
  | .neg=>C0 a fun i=>Ox i (Ox (-i) (k (I (-i))))
  | _=>False)
 | .convert src dst x=>fT n e 1 x fun a=>Qb P rs src dst a k
 | .slice ty x lo hi m=>(match m with|none=>fT n e 0 x fun a=>OD P n e rs ty a lo hi k|some _=>False)
 | .fieldAddr s x f=>fT n e 0 x fun a=>Oz P s f a k
 | .field s x f=>fT n e 0 x fun a=>J0 P s f a k
 | .indexAddr t x y=>fT n e 0 x fun a=>fT n e 0 y fun b=>OC P rs t a b k
 | .index ty x y=>fT n e 0 x fun a=>fT n e 0 y fun b=>Ts b fun i=>(match P.underlying ty with
  | some .string=>(match a with
   | .one (.c (.ro (.v (.string s))))=>Yo s i fun b=>k (V (.int .u8 b.toNat))
   | _=>False)
  | _=>False)
 | .extract x i=>fT n e 0 x fun a=>(match a with| .lp ts=>qD ts i fun t=>k (.one t)|_=>False)
 | .build t parts=>DN P t fun row pl=>yJ n e parts.toList fun pc=>Mo pl (row.map C.ro) pc fun cs=>k (.one (.agg cs))
 | .call c=>(match c with
  | ⟨cl,as,ts⟩=>(match cl with
   | .builtin b=>(match as with
    | ⟨as⟩=>(match ts with
     | ⟨ts⟩=>(match b with
      | .len=>(match as,ts with
       | [x],[t]=>fT n e 0 x fun a=>lenW P rs t a k
       | _,_=>False)
      | .min=>(match as,ts with
       | [x,y],[_,_]=>fT n e 0 x fun a=>fT n e 0 y fun b=>C0 a fun a=>C0 b fun b=>k (I (if b < a then b else a))
       | _,_=>False)
      | .max=>(match as,ts with
       | [x,y],[_,_]=>fT n e 0 x fun a=>fT n e 0 y fun b=>C0 a fun a=>C0 b fun b=>k (I (if b > a then b else a))
       | _,_=>False)
      | _=>False)))
   | _=>False))
 | .makeFunc fn first fk=>(match fn with
  | .func f=>(match first with
   | ⟨[]⟩=>(match fk with|⟨cs⟩=>Ix n e cs fun ts=>Qc ts fun cZ=>k (.fn f cZ))
   | _=>False)
  | _=>False)
 | _=>False
theorem opd01 {t:TS} (h:T.cy 1 st x=some t):T.cy 0 st x=some t ∨ ∃ z,t= .one (.c (.ro (.sl z []))):=by
 cases x with
 | const v=>
  simp only [cy] at h ⊢
  split at h
  rename_i hp;rw [if_pos hp];exact .inl h
  rename_i hp
  rw [if_neg hp]
  split at h
  simp only [Option.some.injEq] at h
  exact .inr ⟨1,h.symm⟩
  cases h
 | tmp t=>exact .inl h
 | func f=>exact .inl h
 | global g=>exact .inl h
theorem DO {e:List En} {k:TS→Prop} (h:C1 P n e rs o.op k):∃ t,dQ P w0 g0 o (aR n e rs) t∧k t:=by
 generalize ho:o.op=op at h
 unfold C1 at h
 split at h
 obtain ⟨t,h1,h2⟩:=bR (rs:=rs) h
 exact ⟨t, .move 1 ho h1,h2⟩
 obtain ⟨t,h1,h2⟩:=bR (rs:=rs) h
 exact ⟨t, .assign 1 ho h1,h2⟩
 obtain ⟨t,h1,h2⟩:=bR (rs:=rs) h
 obtain ⟨b,rfl,h3⟩:=EA h2
 rcases fY.1 h3 with ⟨rfl,h4⟩|⟨rfl,h4⟩
 obtain ⟨t,h5,h6⟩:=bR (rs:=rs) h4
 exact ⟨t, .pick ho h1 (by simpa using h5),h6⟩
 obtain ⟨t,h5,h6⟩:=bR (rs:=rs) h4
 exact ⟨t, .pick ho h1 (by simpa using h5),h6⟩
 obtain ⟨t,h1,h2⟩:=bR (rs:=rs) h
 exact Tv ho h1 h2
 obtain ⟨t,h1,h2⟩:=bR (rs:=rs) h
 split at h2
 exact ⟨_, .nilP ho h1,h2⟩
 exact h2.elim
 obtain ⟨t,h1,h2⟩:=bR (rs:=rs) h
 obtain ⟨t',h3,h4⟩:=bR (rs:=rs) h2
 exact WJ ho h1 h3 h4
 obtain ⟨t,h1,h2⟩:=bR (rs:=rs) h
 split at h2
 obtain ⟨b,rfl,h3⟩:=EA h2
 exact ⟨_, .not ho h1,h3⟩
 obtain ⟨i,rfl,h3⟩:=od h2
 exact ⟨_, .neg ho h1 (by have:=h3.c.hi;omega) h3.hi,h3.c.c⟩
 exact h2.elim
 obtain ⟨t,h1,h2⟩:=bR (rs:=rs) h
 rcases opd01 h1 with h3|⟨z,rfl⟩
 exact Tz ho h3 h1 h2
 unfold Qb at h2
 split at h2
 exact h2.elim
 rename_i hs
 split at h2
 rename_i he
 split at h2
 rename_i hd
 obtain ⟨sz,ds,h3,h4⟩:=sV (n:=n) (e:=e) h2
 obtain ⟨h5,ns,h6,h7⟩:=bG h4
 have h5:=Nat.eq_of_beq_eq_true h5
 subst h5;subst h6
 exact ⟨_, .LY ho h1 h3 hs he hd,h7⟩
 exact h2.elim
 exact h2.elim
 exact h2.elim
 split at h
 obtain ⟨t,h1,h2⟩:=bR (rs:=rs) h
 exact RA ho h1 h2
 exact h.elim
 obtain ⟨t,h1,h2⟩:=bR (rs:=rs) h
 exact Ry ho h1 h2
 obtain ⟨t,h1,h2⟩:=bR (rs:=rs) h
 exact OB ho h1 h2
 obtain ⟨t,h1,h2⟩:=bR (rs:=rs) h
 obtain ⟨t',h3,h4⟩:=bR (rs:=rs) h2
 exact Rz ho h1 h3 h4
 obtain ⟨t,h1,h2⟩:=bR (rs:=rs) h
 obtain ⟨t',h3,h4⟩:=bR (rs:=rs) h2
 obtain ⟨kd,i,rfl,h5⟩:=Tt h4
 split at h5
 rename_i hu
 split at h5
 obtain ⟨m,b,rfl,h6,h7⟩:=h5
 exact ⟨_, .ZL ho h1 h3 hu (Int.natCast_nonneg _) h6,h7⟩
 exact h5.elim
 exact h5.elim
 obtain ⟨t,h1,h2⟩:=bR (rs:=rs) h
 split at h2
 obtain ⟨t,h3,h4⟩:=hJ h2
 exact ⟨_, .extract ho h1 h3,h4⟩
 exact h2.elim
 rename_i t parts
 obtain ⟨fs,it,z,row,pl,h1,h2,h3,h4,h5,h6,h7,h8⟩:=EC h
 obtain ⟨pc,h9,kU⟩:=p6 (rs:=rs) h8
 obtain ⟨cs,oW,h12⟩:=ED kU
 exact ⟨_,dQ.build (parts:=parts.toList) (by rw [ho]) h9 h1 h2 h3 h4 h5 h6 h7 oW,h12⟩
 rename_i c
 obtain ⟨cl,⟨as⟩,⟨ts⟩⟩:=c
 simp only at h
 split at h
 split at h
 split at h
 obtain ⟨t,h1,h2⟩:=bR (rs:=rs) h
 unfold lenW at h2
 split at h2
 rename_i hu
 split at h2
 exact ⟨_, .lenS ho h1 hu,h2⟩
 exact h2.elim
 rename_i hu
 split at h2
 rename_i pl
 obtain ⟨b,p,q⟩:=pl
 simp only at h2
 obtain ⟨m,c,h3,_,h4⟩:=eU (n:=n) (e:=e) h2
 split at h4
 split at h4
 rename_i sz ds
 obtain ⟨m,h5,h6⟩:=h4
 subst h5
 have h7:lu (aR n e rs) (.one (.c (.ref ⟨b,p,q⟩)))=some (sz,ds):=by simp only [lu,h3]
 exact ⟨_, .len ho h1 h7 hu,h6⟩
 exact h4.elim
 exact h4.elim
 exact h4.elim
 obtain ⟨sz,ds,h5,m,h6,h7⟩:=sV (n:=n) (e:=e) h4
 subst h6
 exact ⟨_, .len2 ho h1 h3 h5 hu,h7⟩
 exact h4.elim
 exact h4.elim
 obtain ⟨sz,ds,h3,m,h4,h5⟩:=sV (n:=n) (e:=e) h2
 subst h4
 exact ⟨_, .len ho h1 h3 hu,h5⟩
 exact h2.elim
 exact h.elim
 split at h
 obtain ⟨t,h1,h2⟩:=bR (rs:=rs) h
 obtain ⟨t',h3,h4⟩:=bR (rs:=rs) h2
 obtain ⟨a,rfl,h5⟩:=od h4
 obtain ⟨b,rfl,h6⟩:=od h5
 exact ⟨_, .min ho h1 h3,h6⟩
 exact h.elim
 split at h
 obtain ⟨t,h1,h2⟩:=bR (rs:=rs) h
 obtain ⟨t',h3,h4⟩:=bR (rs:=rs) h2
 obtain ⟨a,rfl,h5⟩:=od h4
 obtain ⟨b,rfl,h6⟩:=od h5
 exact ⟨_, .max ho h1 h3,h6⟩
 exact h.elim
 exact h.elim
 exact h.elim
 split at h
 split at h
 rename_i fk
 obtain ⟨cs⟩:=fk
 simp only at h
 obtain ⟨ts,h1,h2⟩:=vn (rs:=rs) h
 obtain ⟨cZ,h3,h4⟩:=Mp h2
 exact ⟨_, .makeFunc ho h1 h3,h4⟩
 exact h.elim
 exact h.elim
 exact h.elim
end
end Go.Proofs.YtdliggkohdnipaaGreat.T
