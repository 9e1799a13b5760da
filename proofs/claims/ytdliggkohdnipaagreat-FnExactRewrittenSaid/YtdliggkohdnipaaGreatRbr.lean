import Derived.Test.YtdliggkohdnipaaGreatRar
set_option linter.unusedVariables false
set_option linter.unusedSimpArgs false
namespace Go.Proofs.YtdliggkohdnipaaGreat.T
open Go
section
variable {a b:Int} {n:Nat} {x y:Operand} {ty ty':TypeId}
structure Ox (a:Int) (k:Prop):Prop where
 lo: -9223372036854775808 ≤ a
 hi:a ≤ 9223372036854775807
 c:k
inductive Tq (ds:List D) (k:Nat→Prop):Prop
 | mk (n:Nat) (h:ds.length=n) (c:k n)
inductive IxW (ds:List D) (i:Int) (k:D→Prop):Prop
 | mk (m:Nat) (d:D) (h0:i=m) (h:ds[m]? = some d) (c:k d)
inductive ZE (ds:List D) (i:Int) (k:Nat→Prop):Prop
 | mk (m:Nat) (h0:i=m) (h:m < ds.length) (c:k m)
structure NzW (a:Int) (k:Prop):Prop where
 h:a ≠ 0
 c:k
inductive Qa (k':IntKind) (a:Int) (k:Int→Prop):Prop
 | mk (b:Int) (h:k'.wrap a=b) (c:k b)
structure SizW (a:Nat) (k:Prop):Prop where
 h:a ≤ 9223372036854775807
 c:k
inductive NumsW (ds:List D) (k:List Int→Prop):Prop
 | mk (ns:List Int) (h:ds=yC ns) (c:k ns)
inductive Yo (s:ByteArray) (i:Int) (k:UInt8→Prop):Prop
 | mk (m:Nat) (b:UInt8) (h0:i=m) (h:s[m]? = some b) (c:k b)
inductive ZF (n:Nat) (i j:Int) (k:Nat→Nat→Prop):Prop
 | mk (a b:Nat) (h0:i=a) (h1:j=b) (h2:a ≤ b) (h3:b ≤ n) (c:k a b)
inductive ShlW (ka:IntKind) (x y:Int) (k:Int→Prop):Prop
 | mk (n:Nat) (b:Int) (h0:y=n) (hn:n ≤ ka.bits) (h:ka.wrap (x * 2 ^ n)=b) (c:k b)
inductive ShrW (ka:IntKind) (x y:Int) (k:Int→Prop):Prop
 | mk (n:Nat) (b:Int) (h0:y=n) (hn:n ≤ ka.bits) (h:x.fdiv (2 ^ n)=b) (c:k b)
structure EqA (P:Program) (ty:TypeId) (us vs:List Value) (k:Prop):Prop where
 ht:P.underlying ty=some (.struct (P.fieldsOf ty))
 hp:P.stoodInHeld ty=false
 hm:P.eqGuardType P.depth ty=false
 hf:qj P 0 (P.fieldsOf ty).toList us vs=true
 c:k
def ry (a b:Int):Int:=IntKind.i64.wrap (BitVec.ofInt 64 a &&& BitVec.ofInt 64 b).toNat
def ior (a b:Int):Int:=IntKind.i64.wrap (BitVec.ofInt 64 a ||| BitVec.ofInt 64 b).toNat
def Ml (a b:Int):Int:=IntKind.i64.wrap (BitVec.ofInt 64 a &&& ~~~BitVec.ofInt 64 b).toNat
def intW (op:BinOp) (ka kb:IntKind) (x y:Int) (k:TS→Prop):Prop:=BR (decide (ka=kb)) (match op with
 | .lss=>k (B (decide (x < y)))
 | .leq=>k (B (decide (x ≤ y)))
 | .gtr=>k (B (decide (y < x)))
 | .geq=>k (B (decide (y ≤ x)))
 | .eql=>k (B (x == y))
 | .neq=>k (B (x != y))
 | .add=>BR (decide (ka= .i64)) (Ox (x + y) (k (I (x + y)))) False
 | .sub=>BR (decide (ka= .i64)) (Ox (x - y) (k (I (x - y)))) False
 | .mul=>BR (decide (ka= .i64)) (Ox (x * y) (k (I (x * y)))) False
 | .quo=>BR (decide (ka= .i64)) (NzW y (Ox (x.tdiv y) (k (I (x.tdiv y))))) False
 | .rem=>NzW y (k (V (.int ka (x.tmod y))))
 | .and=>BR (decide (ka= .i64)) (k (I (ry x y))) False
 | .or=>BR (decide (ka= .i64)) (k (I (ior x y))) False
 | .andNot=>BR (decide (ka= .i64)) (k (I (Ml x y))) False
 | _=>False) False
def ZG (op:BinOp) (ka kb:IntKind) (x y:Int) (k:TS→Prop):Prop:=match op with
 | .shl=>ShlW ka x y fun b=>k (V (.int ka b))
 | .shr=>ShrW ka x y fun b=>k (V (.int ka b))
 | op=>intW op ka kb x y k
def Mm:List C→(List Value→Prop)→Prop
 | [],k=>k []
 | c :: l,k=>match c with
  | .ro (.v x)=>BR (plain x) (Mm l fun l=>k (x :: l)) False
  | _=>False
theorem Ez:∀ {l:List C} {k:List Value→Prop},Mm l k→∃ vs,Cm l=some vs∧k vs
 | [],k,h=>⟨[],rfl,h⟩
 | c :: l,k,h=>by
  unfold Mm at h
  split at h
  rename_i x
  obtain ⟨h1,h2⟩:=bG h
  obtain ⟨vs,h3,h4⟩:=Ez (l:=l) h2
  exact ⟨x :: vs,by simp [Cm,L0,h1,h3],h4⟩
  exact h.elim
def ZH (P:Program) (op:BinOp) (ty:TypeId) (a b:TS) (k:TS→Prop):Prop:=match a with
 | .one (.c (.ro (.v (.int ka x))))=>(match b with
  | .one (.c (.ro (.v (.int kb y))))=>ZG op ka kb x y k
  | _=>False)
 | .one (.c (.ro (.v (.bool x))))=>(match b with
  | .one (.c (.ro (.v (.bool y))))=>(match P.underlying ty with
   | some .bool=>(match op with
    | .eql=>k (B (x == y))
    | .neq=>k (B (!(x == y)))
    | _=>False)
   | _=>False)
  | _=>False)
 | .one (.c (.ro (.v (.string x))))=>(match b with
  | .one (.c (.ro (.v (.string y))))=>(match op with
   | .add=>SizW (x.size + y.size) (k (S (x ++ y)))
   | .eql=>k (B (x.toList == y.toList))
   | .neq=>k (B !(x.toList == y.toList))
   | _=>False)
  | _=>False)
 | .one (.agg xs)=>(match b with
  | .one (.agg ys)=>Mm xs fun us=>Mm ys fun vs=>EqA P ty us vs (match op with
   | .eql=>k (B (jN us vs))
   | .neq=>k (B !(jN us vs))
   | _=>False)
  | _=>False)
 | _=>False
section
variable {P:Program} {w0:World} {g0:Gh} {o:Oper} {st:St}
theorem dQ.and' (ho:o.op= .binOp .and ty x y ty') (hx:T.cy 0 st x=some (I a)) (hy:T.cy 0 st y=some (I b)):dQ P w0 g0 o st (I (ry a b)):=
 dQ.bin ho hx hy rfl (fun w=>by rw [binOp_and];rfl) rfl
theorem dQ.or' (ho:o.op= .binOp .or ty x y ty') (hx:T.cy 0 st x=some (I a)) (hy:T.cy 0 st y=some (I b)):dQ P w0 g0 o st (I (ior a b)):=
 dQ.bin ho hx hy rfl (fun w=>by rw [binOp_or];rfl) rfl
theorem dQ.diff' (ho:o.op= .binOp .andNot ty x y ty') (hx:T.cy 0 st x=some (I a)) (hy:T.cy 0 st y=some (I b)):dQ P w0 g0 o st (I (Ml a b)):=
 dQ.bin ho hx hy rfl (fun w=>by rw [binOp_andNot];rfl) rfl
theorem dQ.shl' {ka kb:IntKind} (ho:o.op= .binOp .shl ty x y ty') (hx:T.cy 0 st x=some (V (.int ka a))) (hy:T.cy 0 st y=some (V (.int kb b))) (h0:b=n) (hn:n ≤ ka.bits):dQ P w0 g0 o st (V (.int ka (ka.wrap (a * 2 ^ n)))):=
 dQ.bin ho hx hy rfl (fun w=>by
  subst h0
  have h2:¬ ((n:Int) < 0):=by omega
  have h3:min n ka.bits=n:=Nat.min_eq_left hn
  simp [binOp,Op.shift,h2,h3]) rfl
theorem dQ.shr' {ka kb:IntKind} (ho:o.op= .binOp .shr ty x y ty') (hx:T.cy 0 st x=some (V (.int ka a))) (hy:T.cy 0 st y=some (V (.int kb b))) (h0:b=n) (hn:n ≤ ka.bits):dQ P w0 g0 o st (V (.int ka (a.fdiv (2 ^ n)))):=
 dQ.bin ho hx hy rfl (fun w=>by
  subst h0
  have h2:¬ ((n:Int) < 0):=by omega
  have h3:min n ka.bits=n:=Nat.min_eq_left hn
  simp [binOp,Op.shift,h2,h3]) rfl
theorem WH {op:BinOp} {ka kb:IntKind} {k:TS→Prop} (ho:o.op= .binOp op ty x y ty') (hx:T.cy 0 st x=some (V (.int ka a))) (hy:T.cy 0 st y=some (V (.int kb b))) 
  (h:intW op ka kb a b k):∃ t,dQ P w0 g0 o st t∧k t:=by
 obtain ⟨h1,h2⟩:=bG h
 simp only [decide_eq_true_eq] at h1
 subst h1
 split at h2
 exact ⟨_, .lss ho hx hy,h2⟩
 exact ⟨_, .leq ho hx hy,h2⟩
 exact ⟨_, .gtr ho hx hy,h2⟩
 exact ⟨_, .geq ho hx hy,h2⟩
 exact ⟨_, .eql ho hx hy,h2⟩
 exact ⟨_, .neq ho hx hy,h2⟩
 obtain ⟨h3,h4⟩:=bG h2
 simp only [decide_eq_true_eq] at h3
 subst h3
 exact ⟨_, .add ho hx hy h4.lo h4.hi,h4.c⟩
 obtain ⟨h3,h4⟩:=bG h2
 simp only [decide_eq_true_eq] at h3
 subst h3
 exact ⟨_, .sub ho hx hy h4.lo h4.hi,h4.c⟩
 obtain ⟨h3,h4⟩:=bG h2
 simp only [decide_eq_true_eq] at h3
 subst h3
 exact ⟨_, .mul ho hx hy h4.lo h4.hi,h4.c⟩
 obtain ⟨h3,h4⟩:=bG h2
 simp only [decide_eq_true_eq] at h3
 subst h3
 exact ⟨_, .quo ho hx hy h4.h h4.c.lo h4.c.hi,h4.c.c⟩
 exact ⟨_, .rem ho hx hy h2.h,h2.c⟩
 obtain ⟨h3,h4⟩:=bG h2
 simp only [decide_eq_true_eq] at h3
 subst h3
 exact ⟨_, .and' ho hx hy,h4⟩
 obtain ⟨h3,h4⟩:=bG h2
 simp only [decide_eq_true_eq] at h3
 subst h3
 exact ⟨_, .or' ho hx hy,h4⟩
 obtain ⟨h3,h4⟩:=bG h2
 simp only [decide_eq_true_eq] at h3
 subst h3
 exact ⟨_, .diff' ho hx hy,h4⟩
 exact h2.elim
theorem WI {op:BinOp} {ka kb:IntKind} {k:TS→Prop} (ho:o.op= .binOp op ty x y ty') (hx:T.cy 0 st x=some (V (.int ka a))) (hy:T.cy 0 st y=some (V (.int kb b))) 
  (h:ZG op ka kb a b k):∃ t,dQ P w0 g0 o st t∧k t:=by
 unfold ZG at h
 split at h
 obtain ⟨n,b,h0,hn,rfl,hc⟩:=h
 exact ⟨_, .shl' ho hx hy h0 hn,hc⟩
 obtain ⟨n,b,h0,hn,rfl,hc⟩:=h
 exact ⟨_, .shr' ho hx hy h0 hn,hc⟩
 exact WH ho hx hy h
theorem WJ {op:BinOp} {a b:TS} {k:TS→Prop} (ho:o.op= .binOp op ty x y ty') (hx:T.cy 0 st x=some a) (hy:T.cy 0 st y=some b) 
  (h:ZH P op ty a b k):∃ t,dQ P w0 g0 o st t∧k t:=by
 unfold ZH at h
 split at h
 split at h
 exact WI ho hx hy h
 exact h.elim
 split at h
 split at h
 rename_i hu
 split at h
 exact ⟨_, .eqlB ho hx hy hu,h⟩
 exact ⟨_, .neqB ho hx hy hu,h⟩
 exact h.elim
 exact h.elim
 exact h.elim
 split at h
 split at h
 exact ⟨_, .addS ho hx hy h.h,h.c⟩
 exact ⟨_, .eqlS ho hx hy,h⟩
 exact ⟨_, .neqS ho hx hy,h⟩
 exact h.elim
 exact h.elim
 split at h
 obtain ⟨us,h1,h2⟩:=Ez h
 obtain ⟨vs,h3,h4⟩:=Ez h2
 have h5:=h4.c
 split at h5
 exact ⟨_, .eqlA ho hx h1 hy h3 h4.ht h4.hp h4.hm h4.hf,h5⟩
 exact ⟨_, .neqA ho hx h1 hy h3 h4.ht h4.hp h4.hm h4.hf,h5⟩
 exact h5.elim
 exact h.elim
 exact h.elim
theorem dQ.ZI {ty e:TypeId} {x:Operand} {lo hi:Option Operand} {sz i j:Nat} {ds:List D} (ho:o.op= .slice ty x lo hi none) (hx:T.cy 0 st x=some (.one (.c (.ro (.sl sz ds)))))
  (hu:P.underlying ty=some (.slice e)) (hs:jm P e=some sz) (hlo:∀ y,lo=some y→T.cy 0 st y=some (I i)) (ZJ:lo=none→i=0) (hhi:∀ y,hi=some y→T.cy 0 st y=some (I j)) (Tr:hi=none→j=ds.length)
  (h1:i ≤ j) (h2:j ≤ ds.length):dQ P w0 g0 o st (.one (.c (.ro (.sl sz ((ds.take j).drop i))))):=fun a w g hR=>by
 have h0:=hR.cy hx
 generalize hv:a.eval x=v at h0
 cases h0 with
 | one _ _ h0=>
  cases h0 with
  | c _ _ h0=>
   have h3:Ro w g.o (.sl sz ds) v:=h0
   have hb:∀ n c:Nat,ds.length=n→n ≤ c→∀ w':World,(Instr.sliceBounds true n c (lo.map a.eval) (hi.map a.eval) none).run P w'= .ok (i,j,c) w':=fun n c hn hc w'=>by
    cases lo with
    | none=>
     have e1:=ZJ rfl
     subst e1
     cases hi with
     | none=>
      have e2:=Tr rfl
      subst e2
      simp [Instr.sliceBounds,hn]
     | some y=>
      have e3:=hR.val (hhi y rfl)
      have:j ≤ c:=by omega
      simp [Instr.sliceBounds,Instr.sliceBound,asIntOf,e3,this]
    | some x=>
     have e3:=hR.val (hlo x rfl)
     cases hi with
     | none=>
      have e2:=Tr rfl
      subst e2
      have:i ≤ n:=by omega
      simp [Instr.sliceBounds,Instr.sliceBound,asIntOf,e3,hn,this]
     | some y=>
      have e4:=hR.val (hhi y rfl)
      have:j ≤ c:=by omega
      simp [Instr.sliceBounds,Instr.sliceBound,asIntOf,e3,e4,this,h1]
   cases h3 with
   | nil _ ad c=>
    simp only [List.length_nil,Nat.le_zero] at h2
    subst h2
    have hi0:i=0:=by omega
    subst hi0
    refine ⟨.slice ad 0 c,fun w' hw=> ?_, .one _ _ (.c _ _ (Ro.nil sz ad c))⟩
    simp [execOp,ho,hv,Instr.sliceAt,Instr.slice,run_underlying hu,hb 0 c rfl (Nat.zero_le _),cU hs]
    rintro -
    cases ad <;> simp [Addr.add]
   | sl _ _ b off n c us hn hm hnc hro hrow hcell hel=>
    refine ⟨.slice (if c=i then some ⟨b,off,none⟩ else some ⟨b,off + i * sz,none⟩) (j - i) (c - i),fun w' hw=> ?_, .one _ _ (.c _ _ ?_)⟩
    simp [execOp,ho,hv,Instr.sliceAt,Instr.slice,run_underlying hu,hb n c hn hnc,cU hs]
    split <;> simp [Addr.add_lit]
    show Ro w g.o _ _
    by_cases hlen:j ≤ i
    have e1:(ds.take j).drop i=[]:=List.drop_eq_nil_of_le (by rw [List.length_take];omega)
    have e2:j - i=0:=by omega
    rw [e1,e2]
    exact Ro.nil _ _ _
    rw [if_neg (show ¬ c=i by omega)]
    refine .sl sz _ b (off + i * sz) (j - i) (c - i) (fun t=>us (i * sz + t)) (by simp;omega) (by omega) (by omega) hro (fun x hx=>hrow x (List.mem_of_mem_take (List.mem_of_mem_drop hx))) (fun t ht=> ?_) (fun i' x hi j' c' hj=> ?_)
    have h5:i * sz + t < n * sz:=by
     have h6:(j - i) * sz + i * sz=j * sz:=by rw [← Nat.add_mul];congr 1;omega
     have h7:j * sz ≤ n * sz:=Nat.mul_le_mul_right _ (by omega)
     omega
    have:=hcell _ h5
    rw [Nat.add_assoc]
    exact this
    rw [List.getElem?_drop,List.getElem?_take] at hi
    split at hi
    have:=hel _ x hi j' c' hj
    rw [Nat.add_mul,Nat.add_assoc] at this
    exact this
    cases hi
theorem dQ.ZK {ty e:TypeId} {x:Operand} {lo hi:Option Operand} {sz i j:Nat} {ds:List D} {pl:Pl} (ho:o.op= .slice ty x lo hi none) (hx:T.cy 0 st x=some (.one (.c (.ref pl)))) (hc0:st.cellAt pl=some (.own (.sl sz ds)))
  (hu:P.underlying ty=some (.slice e)) (hs:jm P e=some sz) (hlo:∀ y,lo=some y→T.cy 0 st y=some (I i)) (ZJ:lo=none→i=0) (hhi:∀ y,hi=some y→T.cy 0 st y=some (I j)) (Tr:hi=none→j=ds.length)
  (h1:i < j) (h2:j ≤ ds.length):dQ P w0 g0 o st (.one (.cut pl sz i j)):=fun a w g hR=>by
 have h0:=hR.cy hx
 have h4:=(hR.cellAt hc0).1 _ rfl
 generalize hv:a.eval x=v at h0
 cases h0 with
 | one _ _ h0=>
  cases h0 with
  | c _ _ h0=>
   have h3:v=g.cv pl.k pl.p pl.q:=h0.1
   subst h3
   have hb:∀ n c:Nat,ds.length=n→n ≤ c→∀ w':World,(Instr.sliceBounds true n c (lo.map a.eval) (hi.map a.eval) none).run P w'= .ok (i,j,c) w':=fun n c hn hc w'=>by
    cases lo with
    | none=>
     have e1:=ZJ rfl
     subst e1
     cases hi with
     | none=>
      have e2:=Tr rfl
      subst e2
      simp [Instr.sliceBounds,hn]
     | some y=>
      have e3:=hR.val (hhi y rfl)
      have:j ≤ c:=by omega
      simp [Instr.sliceBounds,Instr.sliceBound,asIntOf,e3,this]
    | some x=>
     have e3:=hR.val (hlo x rfl)
     cases hi with
     | none=>
      have e2:=Tr rfl
      subst e2
      have:i ≤ n:=by omega
      simp [Instr.sliceBounds,Instr.sliceBound,asIntOf,e3,hn,this]
     | some y=>
      have e4:=hR.val (hhi y rfl)
      have:j ≤ c:=by omega
      have:i ≤ j:=by omega
      simp [Instr.sliceBounds,Instr.sliceBound,asIntOf,e3,e4, *]
   cases h4 with
   | nil=>simp at h2;omega
   | sl _ _ _ _ b off n c cs ty' fL hn hm hnc uA ho' hb' hfit hrow had hcell hel=>
    refine ⟨.slice (some ⟨b,off + i * sz,none⟩) (j - i) (c - i),fun w' hw=> ?_, .one _ _ (.cut pl sz i j b off n c fL h1 (by omega) hnc)⟩
    rw [fL] at hv
    have hne:¬ c=i:=by omega
    simp [execOp,ho,hv,Instr.sliceAt,Instr.slice,run_underlying hu,hb n c hn hnc,cU hs,hne,Addr.add_lit]
end
end
end Go.Proofs.YtdliggkohdnipaaGreat.T
