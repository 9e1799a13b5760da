import Derived.Test.YtdliggkohdnipaaGreatRmq
import Derived.Test.YtdliggkohdnipaaGreatProg
set_option linter.unusedVariables false
set_option linter.unusedSimpArgs false
namespace Go.Proofs.YtdliggkohdnipaaGreat.T
open Go
section
variable {b:Bool} {ds ns:List D} {vs:List Nat} {a k m n:Nat} {rs:Rs}
class Q (p:Prop):Prop where
 h:p
class CV (b:Bool) (p q:outParam Prop):Prop where
 yes:b=true→p
 no:b=false→q
instance (priority:=low) (b:Bool):CV b (b=true) (b=false):=⟨id,id⟩
instance (p:Prop) {_:Decidable p}:CV (decide p) p (¬ p):=⟨of_decide_eq_true,of_decide_eq_false⟩
instance (a b:Int):CV (a == b) (a=b) (¬ a=b):=⟨fun h=>by simpa using h,fun h=>by simpa using h⟩
instance (a b:Int):CV (a != b) (¬ a=b) (a=b):=⟨fun h=>by simpa using h,fun h=>by simpa using h⟩
instance (b:Bool) (p q:Prop) [h:CV b p q]:CV (!b) q p:=⟨fun e=>h.no (by simpa using e),fun e=>h.yes (by simpa using e)⟩
instance (a b:Bool) (p q p' q':Prop) [h:CV a p q] [h':CV b p' q']:CV (a || b) (p ∨ p') (q∧q'):=
 ⟨fun e=>by rw [Bool.or_eq_true] at e;exact e.imp h.yes h'.yes,fun e=>by rw [Bool.or_eq_false_iff] at e;exact ⟨h.no e.1,h'.no e.2⟩⟩
class CW (us vs:List Value) (p:outParam Prop):Prop where
 h:kH us vs=true ↔ p
instance (k k':IntKind) (a b:Int):CW [.int k a] [.int k' b] (a=b):=⟨by simp [kH,zJ]⟩
instance (k k':IntKind) (a b:Int) (x y:Value) (us vs:List Value) (p:Prop) [h:CW (x :: us) (y :: vs) p]:CW (.int k a :: x :: us) (.int k' b :: y :: vs) (a=b∧p):=⟨by rw [← h.h];show (_ && _)=true ↔ _;rw [bh];simp [zJ]⟩
instance (a b:Bool) (x y:Value) (us vs:List Value) (p:Prop) [h:CW (x :: us) (y :: vs) p]:CW (.bool a :: x :: us) (.bool b :: y :: vs) (a=b∧p):=⟨by rw [← h.h];show (_ && _)=true ↔ _;rw [bh];simp [zJ]⟩
instance (us vs:List Value) (p:Prop) [h:CW us vs p]:CV (kH us vs) p (¬ p):=⟨h.h.1,fun e e'=>by rw [h.h.2 e'] at e;cases e⟩
theorem aB {p q A B:Prop} [h:CV b p q] (h1:p→A) (h2:q→B): @Bool.rec (fun _=>Prop) B A b:=dV (fun e=>h1 (h.yes e)) (fun e=>h2 (h.no e))
theorem cndT {p q A B:Prop} [h:CV b p q] (hq:¬ q) (hA:A): @Bool.rec (fun _=>Prop) B A b:=by
 cases hb:b with
 | true=>exact hA
 | false=>exact absurd (h.no hb) hq
theorem cndF {p q A B:Prop} [h:CV b p q] (hp:¬ p) (hB:B): @Bool.rec (fun _=>Prop) B A b:=by
 cases hb:b with
 | true=>exact absurd (h.yes hb) hp
 | false=>exact hB
class jW {α:Type} (xs:List α) (S:outParam (α→Prop)):Prop where
 h:∀ y ∈ xs,S y
instance (priority:=low) {α:Type} (xs:List α):jW xs (fun _=>True):=⟨fun _ _=>trivial⟩
class ElB {α:Type} (S: α→Prop) (B:outParam (α→Prop)):Prop where
 h:∀ y,S y→B y
instance (priority:=low) {α:Type} (S: α→Prop):ElB S (fun _=>True):=⟨fun _ _=>trivial⟩
theorem s6 {α:Type} {f: α→D} {xs:List α} {S B: α→Prop} [hS:jW xs S] [hB:ElB S B] {k:D→Prop} (c:∀ y,xs[m]? = some y→Q (S y)→B y→k (f y)) (h:m < xs.length:=by omega):IxW (xs.map f) (m:Int) k:=⟨m,f xs[m],rfl,by simp [h],c _ (by simp [h]) ⟨hS.h _ (List.getElem_mem h)⟩ (hB.h _ (hS.h _ (List.getElem_mem h)))⟩
theorem xw {α:Type} {f: α→D} {xs:List α} {S B: α→Prop} [hS:jW xs S] [hB:ElB S B] {i:Int} {k:D→Prop} (c:∀ y,xs[i.toNat]? = some y→Q (S y)→B y→k (f y)) (h:0 ≤ i∧i < xs.length:=by omega):IxW (xs.map f) i k:=
 have h1:i.toNat < xs.length:=by omega
 ⟨i.toNat,f xs[i.toNat],by omega,by simp [h1],c _ (by simp [h1]) ⟨hS.h _ (List.getElem_mem h1)⟩ (hB.h _ (hS.h _ (List.getElem_mem h1)))⟩
class YH (l:List D):Prop where
 h:l.length ≤ 1
instance (d:D):YH [d]:=⟨gL _⟩
instance (l:List D) (k:Nat) (x:D) [h:YH l]:YH (l.set k x):=⟨by rw [bD];exact h.h⟩
instance (l:List D) (x:D) [h1:YH l] [h:WR x]:WL (l.set 0 x):=⟨fun y hy=>by
 match l,h1.h with
 | [],_=>cases hy
 | [d],_=>
  rw [List.set_cons_zero,o5] at hy
  rw [hy];exact h⟩
instance (d x:D) [h:WR x]:WL ([d].set 0 x):=⟨fun y hy=>by simp only [List.set_cons_zero,o5] at hy;rw [hy];exact h⟩
theorem sn {α:Type} {f: α→D} {xs:List α} {S B: α→Prop} [hS:jW xs S] [hB:ElB S B] {k:D→Prop} (c:∀ y,xs[m]? = some y→Q (S y)→B y→k (f y)) (h:m < xs.length:=by omega): @Option.rec D (fun _=>Prop) False k ((xs.map f)[m]?):=
 aL (y:=xs[m]) (by simp [h]) (c _ (by simp [h]) ⟨hS.h _ (List.getElem_mem h)⟩ (hB.h _ (hS.h _ (List.getElem_mem h))))
class cX {α:Type} (xs:List α) (n:outParam Nat):Prop where
 h:xs.length ≤ n
instance {α:Type}:cX ([]:List α) 0:=⟨gL _⟩
instance {α:Type} (x: α) (l:List α) (n:Nat) [h:cX l n]:cX (x :: l) (n + 1):=⟨Nat.succ_le_succ h.h⟩
instance {α β:Type} (f: α→ β) (l:List α) (n:Nat) [h:cX l n]:cX (l.map f) n:=⟨by rw [aI];exact h.h⟩
instance {α:Type} (k:Nat) (l:List α) (n:Nat) [h:cX l n]:cX (l.take k) n:=⟨eP (by rw [e_];exact Nat.min_le_right ..) h.h⟩
instance {α:Type} (k:Nat) (l:List α) (n:Nat) [h:cX l n]:cX (l.drop k) n:=⟨eP (by rw [List.length_drop];exact Nat.sub_le ..) h.h⟩
instance {α:Type} (k:Nat) (x: α) (l:List α) (n:Nat) [h:cX l n]:cX (l.set k x) n:=⟨by rw [bD];exact h.h⟩
instance {α:Type} (a b:List α) (n m:Nat) [h:cX a n] [h':cX b m]:cX (a ++ b) (n + m):=⟨by rw [o4];exact Nat.add_le_add h.h h'.h⟩
instance {α:Type} (k:Nat) (x: α):cX (List.replicate k x) k:=⟨by rw [List.length_replicate];exact gL _⟩
theorem cD {b:Nat} {k:Prop} [h:PL ns] [ha:cX ds a] [hb:cX ns b] (hk:k) (hl:a + b ≤ 134217728:=by first|decide|omega):AppP ds ns k:=Gt hk (eP (Nat.add_le_add ha.h hb.h) hl)
theorem lH {b:Nat} {k:Prop} [h:WL ns] [ha:cX ds a] [hb:cX ns b] (hk:k) (hl:a + b ≤ 134217728:=by first|decide|omega):AppO ds ns k:=appO hk (eP (Nat.add_le_add ha.h hb.h) hl)
def yQ (xs:List Nat):Rs→(Rs→Prop)→Prop
 | [],k=>k []
 | (a,⟨m,row⟩) :: l,k=>BR (Em a xs) (yQ xs l k) (yQ xs l fun l=>k ((a,⟨m,row⟩) :: l))
theorem sr {xs:List Nat}:∀ {rs:Rs} {k:Rs→Prop},yQ xs rs k→∃ kr,k kr
 | [],k,h=>⟨_,h⟩
 | (a,⟨m,row⟩) :: l,k,h=>by
  rcases gM.1 h with ⟨_,h⟩|⟨_,h⟩
  exact sr (rs:=l) h
  exact (sr (rs:=l) h).elim fun kr h=>⟨_,h⟩
theorem Can.takeN {st bJ yy:St} {k1:Nat} {p1:List (Nat×Nat)} {q1 L:Nat} (h:st.takeN k1 p1 q1 L=some bJ) (hne:k1 ≠ L) (hL:L < 1000000) (hc:Can bJ yy):Can st yy:=fun hR=>by
 obtain ⟨g1,h1⟩:=hR.takeN h hne hL
 exact hc h1
def AE (e:List En) (rs:Rs):List Nat→(List En→Rs→Prop)→Prop
 | [],k=>k e rs
 | v :: l,k=>lookW e v fun t=>nR t fun t=>match t with
  | .one (.c (.ref pl))=>(match pl with
   | ⟨b,p,q⟩=>BR (Nat.beq b v) (AE e rs l k) (BR (Nat.blt v 1000000) (rj rs b fun m row=>BR (!m && Nat.beq row.length 1 && p.isEmpty && Nat.beq q 0)
    (k5 v rs (DI b v rs) fun rs=>AE (.app (Ns b v) :: e) rs l k) (VA b p q v e rs fun e rs=>AE e rs l k)) False))
  | _=>AE e rs l k
theorem rQ {n:Nat}:∀ {l:List Nat} {e:List En} {rs:Rs} {k:List En→Rs→Prop},AE e rs l k→∃ e' fZ,k e' fZ∧∀ yy,Can (aZ n e' fZ) yy→Can (aZ n e rs) yy
 | [],e,rs,k,h=>⟨e,rs,h,fun _ h=>h⟩
 | v :: l,e,rs,k,h=>by
  have h:=gN.1 (sc h)
  generalize look e v=t at h
  split at h
  rename_i pl
  obtain ⟨b,p,q⟩:=pl
  simp only at h
  rcases gM.1 h with ⟨_,h⟩|⟨_,h⟩
  exact rQ h
  obtain ⟨h1,h2⟩:=bQ h
  obtain ⟨m,row,h3,h4⟩:=iZ (n:=n) (e:=e) h2
  rcases gM.1 h4 with ⟨_,h5⟩|⟨_,h5⟩
  obtain ⟨e',fZ,h6,h7⟩:=rQ (n:=n) (l:=l) (hU h5)
  exact ⟨e',fZ,h6,fun yy hc=>Can.name b v RS (h7 yy hc) (fA h1)⟩
  obtain ⟨h6,bJ,h7,e1,rs1,h8,h9⟩:=NW (n:=n) h5
  obtain ⟨e',fZ,mo,qT⟩:=rQ (n:=n) (l:=l) h9
  exact ⟨e',fZ,mo,fun yy hc=>Can.takeN h7 h6 (fA h1) (h8 ▸ qT yy hc)⟩
  exact rQ h
def GD (e:List En) (rs:Rs) (vs:List Nat) (E:List En) (R:Rs):Prop:=AE e rs vs fun e rs=>AB e E (Gw rs R)
theorem GD.can {e E:List En} {R:Rs} (h:GD e rs vs E R):Can (aZ n e rs) (aZ n E R):=by
 obtain ⟨e',fZ,h1,h2⟩:=rQ (n:=n) h
 obtain ⟨h3,h4⟩:=yM h1
 exact h2 _ (Gx h3 (yN h4))
inductive NextA {α:Type} (inv: α→Prop) (v: α→Nat) (vs:List Nat) (x: α) (E: α→List En) (R: α→Rs) (e:List En) (rs:Rs):Prop
 | mk (y: α) (h1:v y < v x) (h2:inv y) (h3:GD e rs vs (E y) (R y))
theorem ck {P:Program} {w0:World} {g0:Gh} {n:Nat} {c:Code} {e:List En} {rs:Rs} {K:Kx} {α:Type} (js vs xs:List Nat) (zy: α→List En) (rts: α→Rs) (inv: α→Prop) (v: α→Nat) (x0: α) (h0:inv x0)
  (h:AE e rs vs fun e rs=>Kr n e js fun ke=>yQ xs rs fun kr=>AB e (zy x0 ++ ke) (Gw rs (rts x0 ++ kr))∧
   ∀ x,inv x→I9 (zy x) ke fun E=>I9 (rts x) kr fun R=>∀ N:Kx,(∀ ex e' fZ,LR (NextA inv v vs x (fun y=>zy y ++ ke) (fun y=>rts y ++ kr)) K ex e' fZ→N ex e' fZ)→wC P w0 g0 n c E R N):RR P w0 g0 n c e rs K:=⟨by
 obtain ⟨e2,Kk,h,hcan⟩:=rQ (n:=n) h
 obtain ⟨ke,h⟩:=xq h
 obtain ⟨kr,h1,h2⟩:=sr h
 obtain ⟨h3,h4⟩:=yM h1
 refine TC.loop (fun μ st=>∃ x,inv x∧ μ=v x∧Can st (aZ n (zy x ++ ke) (rts x ++ kr))) (v x0) ⟨x0,h0,rfl,hcan _ (Gx h3 (yN h4))⟩ fun μ st ⟨x,hi,hv,hc⟩=> ?_
 refine TC.can hc ?_
 refine (n7 (rC (rC (h2 x hi)) _ fun _ _ _ h=>h)).mono fun ex st ⟨e',fZ,hs,hk⟩=> ?_
 subst hs
 cases ex with
 | normal=>
  obtain ⟨y,h3,h4,h5⟩:=hk
  exact ⟨v y,by rw [hv];exact h3,y,h4,rfl,h5.can⟩
 | _=>exact .mk hk⟩
def dn (p:Nat→Bool) (n:Nat):List Int:=((List.range n).filter p).map fun (k:Nat)=>(k:Int)
theorem DV {p:Nat→Bool}:dn p 0=[]:=rfl
theorem c_ {p:Nat→Bool}:dn p (n + 1)=dn p n ++ if p n=true then [(n:Int)] else []:=by
 simp only [dn,List.range_succ,List.filter_append,iW,List.filter_cons,List.filter_nil]
 split <;> rfl
theorem kJ {p:Nat→Bool} {n:Nat}:(dn p n).length ≤ n:=by
 rw [dn,aI]
 exact eP (List.length_filter_le ..) (by simp)
theorem lI {α:Type} {p: α→Bool} {xs:List α} (h:(xs.take k).all p=true):(∀ x,xs[k]? = some x→p x=false→xs.all p=false)∧(xs.length ≤ k→xs.all p=true):=
 ⟨fun x hx hp=>by rw [List.all_eq_false];exact ⟨x,aH hx,by simp [hp]⟩,fun hk=>by rwa [fu hk] at h⟩
theorem jD {α:Type} {p: α→Bool} {xs:List α} {x: α} (h:(xs.take k).all p=true) (hx:xs[k]? = some x) (hp:p x=true):(xs.take (k + 1)).all p=true:=by
 rw [fX,hx,List.all_append,h]
 simp [hp]
theorem cvu {a:Int} {k:Int→Prop} (c:k a) (h:0 ≤ a:=by omega) (h2:a < 18446744073709551616:=by omega):RB .u64 a k:=⟨a,by rw [IntKind.wrap_u64];omega,c⟩
theorem cvb {a:Int} {k:Int→Prop} (c:k a) (h:0 ≤ a:=by omega) (h2:a < 256:=by omega):RB .u8 a k:=⟨a,by rw [IntKind.wrap_u8];omega,c⟩
theorem hda {e E:List En} {k:Prop} (h:AB e E k:=by repeat' first|exact rfl|constructor|(refine dL ?_;simp [DV];done)):AB e E k:=h
theorem hY {α:Type} {inv: α→Prop} {v: α→Nat} {x: α} {E: α→List En} {R: α→Rs} {e:List En} (y: α) (h2:inv y) (h3:GD e rs vs (E y) (R y):=by repeat' first|exact rfl|constructor|(refine dL ?_;simp;done)|(refine dL ?_;simp [fX,cS,c_, *];done)|(refine dL ?_;exact congrArg (fun z:Int=>(I z:TS)) (by omega))) (h1:v y < v x:=by first|omega|(dsimp only;omega)):NextA inv v vs x E R e rs:=⟨y,h1,h2,h3⟩
end
section
variable {k:Nat}
set_option maxRecDepth 100000
set_option maxHeartbeats 1000000
theorem dO {α:Type} {xs:List α} (h:k < xs.length):∃ x,xs[k]? = some x:=⟨xs[k],bg h⟩
theorem mB {α:Type} {xs ys:List α} {x: α} (h:xs.take k=ys.take k) (hx:xs[k]? = some x) (hy:ys[k]? = some x):xs.take (k + 1)=ys.take (k + 1):=by
 rw [fX,fX,h,hx,hy]
theorem pe {α:Type} {xs ys:List α} {x y: α} (hx:xs[k]? = some x) (hy:ys[k]? = some y) (h:x ≠ y):xs ≠ ys:=fun e=>by
 subst e
 rw [hx] at hy
 exact h (Option.some.inj hy)
theorem ph {α:Type} {xs ys:List α} (hl:xs.length=ys.length) (h:xs.take k=ys.take k) (hk:xs.length ≤ k):xs=ys:=by
 rwa [fu hk,fu (by omega)] at h
def lQ {α:Type} (f: α→Int→Int):List α→Int→Int
 | [],n=>n
 | x :: l,n=>if f x n < 0 then -1 else lQ f l (f x n)
theorem CX {α:Type} {f: α→Int→Int} {S: α→Prop} (hf:∀ x n,0 ≤ f x n→f x n ≤ n∧(n ≤ 1048576→S x)):∀ (xs:List α) (n:Int),0 ≤ lQ f xs n→lQ f xs n ≤ n∧(n ≤ 1048576→∀ x ∈ xs,S x)
 | [],n,h=>⟨by simp [lQ],fun _ x hx=>by cases hx⟩
 | x :: l,n,h=>by
  unfold lQ at h ⊢
  split at h
  omega
  rename_i h0
  rw [if_neg h0]
  have h1:=hf x n (by omega)
  have h2:=CX hf l _ h
  refine ⟨by omega,fun hn y hy=> ?_⟩
  rcases m8.1 hy with rfl|hy
  exact h1.2 hn
  exact h2.2 (by omega) y hy
theorem DW {α:Type} {f: α→Int→Int} {xs:List α} {x: α} (h:xs[k]? = some x) (n:Int):lQ f (xs.drop k) n=if f x n < 0 then -1 else lQ f (xs.drop (k + 1)) (f x n):=by
 have hk:=(aM.1 h).1
 rw [Bg hk]
 have:xs[k]=x:=(aM.1 h).2
 rw [this]
 rfl
abbrev bS (x:Int):D:= .v (.int .i64 x)
theorem wh_Int (x:Int):∀ c ∈ (bS x).row,Whole c:=by intro c hc;simp only [D.row,m8,List.not_mem_nil,or_false] at hc;subst hc;exact .v _
abbrev aP (xs:List Int):D:= .sl 1 (xs.map bS)
theorem Qq (xs:List Int):Whole (.sl 1 (xs.map bS)):=uE _ xs wh_Int
theorem YI (xs:List Int):∀ c ∈ (aP xs).row,Whole c:=by intro c hc;simp only [D.row,m8,List.not_mem_nil,or_false] at hc;subst hc;exact Qq xs
def dP (xs:List Int):Prop:=xs.length ≤ 1048576
theorem YJ (xs:List (List Int)):Whole (.sl 1 (xs.map aP)):=uE _ xs YI
def eD (xs:List (List Int)):Prop:=xs.length ≤ 1048576∧∀ x ∈ xs,dP x
structure aQ where
 aN:Int
 bf:Int
 deriving DecidableEq
abbrev iF (x:aQ):List D:=[.v (.int .i64 x.aN), .v (.int .i64 x.bf)]
abbrev aT (x:aQ):D:= .st (iF x)
theorem YK (x:aQ):∀ c ∈ (aT x).row,Whole c:=by
 intro c hc
 simp only [D.row,iF,m8,List.not_mem_nil,or_false] at hc
 rcases hc with rfl|rfl
 all_goals first|exact .v _
theorem YL (xs:List aQ):Whole (.sl 2 (xs.map aT)):=uE _ xs YK
def eM (xs:List aQ):Prop:=xs.length ≤ 1048576
abbrev bO (x:Bool):D:= .v (.bool x)
def ou (xs:List Bool):Prop:=xs.length ≤ 1048576
structure bZ where
 Op:Int
 X:Int
 deriving DecidableEq
abbrev Eo (x:bZ):List D:=[.v (.int .i64 x.Op), .v (.int .i64 x.X)]
abbrev i_ (x:bZ):D:= .st (Eo x)
theorem wh_Ins (x:bZ):∀ c ∈ (i_ x).row,Whole c:=by
 intro c hc
 simp only [D.row,Eo,m8,List.not_mem_nil,or_false] at hc
 rcases hc with rfl|rfl
 all_goals first|exact .v _
abbrev h_ (xs:List bZ):D:= .sl 2 (xs.map i_)
theorem w_InsS (xs:List bZ):Whole (.sl 2 (xs.map i_)):=uE _ xs wh_Ins
def ju (xs:List bZ):Prop:=xs.length ≤ 1048576
structure qY where
 bn:Int
 Post:Int
 Open:Bool
 deriving DecidableEq
abbrev zA (x:qY):List D:=[.v (.int .i64 x.bn), .v (.int .i64 x.Post), .v (.bool x.Open)]
structure qE where
 Kind:Int
 aN:Int
 Write:Bool
 N:Int
 deriving DecidableEq
abbrev uM (x:qE):List D:=[.v (.int .i64 x.Kind), .v (.int .i64 x.aN), .v (.bool x.Write), .v (.int .i64 x.N)]
structure ax where
 Prog:List bZ
 A:Int
 Pc:Int
 Written:List aQ
 Live:List aQ
 jv:qY
 av:Int
 Exit:qE
 kg:Bool
 Seen:List Int
 deriving DecidableEq
abbrev bK (x:ax):List D:=[.sl 2 (x.Prog.map i_), .v (.int .i64 x.A), .v (.int .i64 x.Pc), .sl 2 (x.Written.map aT), .sl 2 (x.Live.map aT), .v (.int .i64 x.jv.bn), .v (.int .i64 x.jv.Post), .v (.bool x.jv.Open), .v (.int .i64 x.av), .v (.int .i64 x.Exit.Kind), .v (.int .i64 x.Exit.aN), .v (.bool x.Exit.Write), .v (.int .i64 x.Exit.N), .v (.bool x.kg), .sl 1 (x.Seen.map bS)]
abbrev bp (x:ax):D:= .st (bK x)
theorem V7 (x:ax):∀ c ∈ (bp x).row,Whole c:=by
 intro c hc
 simp only [D.row,bK,m8,List.not_mem_nil,or_false] at hc
 rcases hc with rfl|rfl|rfl|rfl|rfl|rfl|rfl|rfl|rfl|rfl|rfl|rfl|rfl|rfl|rfl
 all_goals first|exact .v _|exact w_InsS _|exact Qq _|exact YL _
def aJ (x:ax):Prop:=ju x.Prog∧eM x.Written∧eM x.Live∧dP x.Seen
theorem V8 (xs:List ax):Whole (.sl 15 (xs.map bp)):=uE _ xs V7
def ki (xs:List ax):Prop:=xs.length ≤ 1048576∧∀ x ∈ xs,aJ x
structure cE where
 cG:List Bool
 dQ:List aQ
 deriving DecidableEq
abbrev ia (x:cE):List D:=[.sl 1 (x.cG.map bO), .sl 2 (x.dQ.map aT)]
abbrev cz (x:cE):D:= .st (ia x)
def dR (x:cE):Prop:=ou x.cG∧eM x.dQ
def tf (xs:List cE):Prop:=xs.length ≤ 1048576∧∀ x ∈ xs,dR x
structure aV where
 ak:List aQ
 Out:List (List Int)
 bI:List Bool
 aa:List ax
 cm:List Int
 av:Int
 bn:Int
 Tables:List cE
 Own:Int
 deriving DecidableEq
abbrev vv (x:aV):List D:=[.sl 2 (x.ak.map aT), .sl 1 (x.Out.map aP), .sl 1 (x.bI.map bO), .sl 15 (x.aa.map bp), .sl 1 (x.cm.map bS), .v (.int .i64 x.av), .v (.int .i64 x.bn), .sl 2 (x.Tables.map cz), .v (.int .i64 x.Own)]
abbrev bA (x:aV):D:= .st (vv x)
def bt (x:aV):Prop:=eM x.ak∧eD x.Out∧ou x.bI∧ki x.aa∧dP x.cm∧tf x.Tables
def xx (xs:List aV):Prop:=xs.length ≤ 1048576∧∀ x ∈ xs,bt x
structure bP where
 Tag:Int
 aN:Int
 Host:Int
 bf:Int
 deriving DecidableEq
abbrev tW (x:bP):List D:=[.v (.int .i64 x.Tag), .v (.int .i64 x.aN), .v (.int .i64 x.Host), .v (.int .i64 x.bf)]
abbrev aC (x:bP):D:= .st (tW x)
def c4 (xs:List bP):Prop:=xs.length ≤ 1048576
structure ap where
 au:List (List Int)
 ai:List aV
 Buffer:List bP
 aD:List bP
 deriving DecidableEq
abbrev aq (x:ap):List D:=[.sl 1 (x.au.map aP), .sl 9 (x.ai.map bA), .sl 4 (x.Buffer.map aC), .sl 4 (x.aD.map aC)]
def aj (x:ap):Prop:=eD x.au∧xx x.ai∧c4 x.Buffer∧c4 x.aD
structure aS where
 au:List (List Int)
 aa:List ax
 cm:List Int
 av:Int
 deriving DecidableEq
abbrev bH (x:aS):List D:=[.sl 1 (x.au.map aP), .sl 15 (x.aa.map bp), .sl 1 (x.cm.map bS), .v (.int .i64 x.av)]
abbrev wj (x:aS):D:= .st (bH x)
theorem YM (x:aS):∀ c ∈ (wj x).row,Whole c:=by
 intro c hc
 simp only [D.row,bH,m8,List.not_mem_nil,or_false] at hc
 rcases hc with rfl|rfl|rfl|rfl
 all_goals first|exact .v _|exact V8 _|exact Qq _|exact YJ _
def a_ (x:aS):Prop:=eD x.au∧ki x.aa∧dP x.cm
def LZ (xs:List aS):Prop:=xs.length ≤ 1048576∧∀ x ∈ xs,a_ x
structure lF where
 ai:List aS
 bn:List Int
 Own:List Int
 deriving DecidableEq
abbrev xy (x:lF):List D:=[.sl 4 (x.ai.map wj), .sl 1 (x.bn.map bS), .sl 1 (x.Own.map bS)]
def yR (x:lF):Prop:=LZ x.ai∧dP x.bn∧dP x.Own
structure jE where
 Ok:Bool
 N:Int
 deriving DecidableEq
abbrev GF (x:jE):List D:=[.v (.bool x.Ok), .v (.int .i64 x.N)]
abbrev gU (x:jE):D:= .st (GF x)
def yS (xs:List jE):Prop:=xs.length ≤ 1048576
structure dF where
 Kind:Int
 M:Int
 G:Int
 X:Int
 Y:Int
 Z:Int
 deriving DecidableEq
abbrev CY (x:dF):List D:=[.v (.int .i64 x.Kind), .v (.int .i64 x.M), .v (.int .i64 x.G), .v (.int .i64 x.X), .v (.int .i64 x.Y), .v (.int .i64 x.Z)]
abbrev gO (x:dF):D:= .st (CY x)
abbrev dActS (xs:List dF):D:= .sl 6 (xs.map gO)
def ja (xs:List dF):Prop:=xs.length ≤ 1048576
abbrev de (xs:List (List bZ)):D:= .sl 1 (xs.map h_)
def kK (xs:List (List bZ)):Prop:=xs.length ≤ 1048576∧∀ x ∈ xs,ju x
abbrev YN (xs:List (List (List bZ))):D:= .sl 1 (xs.map de)
def dY (xs:List (List (List bZ))):Prop:=xs.length ≤ 1048576∧∀ x ∈ xs,kK x
def mZ (xs:List bZ) (n:Int):Int:=if n - xs.length < 0 then -1 else n - xs.length
theorem Kw (xs:List bZ) (n:Int) (h:0 ≤ mZ xs n):mZ xs n ≤ n∧(n ≤ 1048576→ju xs):=by
 unfold mZ at h ⊢
 split at h
 omega
 rename_i h0
 rw [if_neg h0]
 exact ⟨by omega,fun hn=>by unfold ju;omega⟩
def tX (xs:List dF) (n:Int):Int:=if n - xs.length < 0 then -1 else n - xs.length
theorem Ky (xs:List dF) (n:Int) (h:0 ≤ tX xs n):tX xs n ≤ n∧(n ≤ 1048576→ja xs):=by
 unfold tX at h ⊢
 split at h
 omega
 rename_i h0
 rw [if_neg h0]
 exact ⟨by omega,fun hn=>by unfold ja;omega⟩
def ji (xs:List (List bZ)) (n:Int):Int:=if n - xs.length < 0 then -1 else lQ mZ xs (n - xs.length)
theorem GG (xs:List (List bZ)) (n:Int) (h:0 ≤ ji xs n):ji xs n ≤ n∧(n ≤ 1048576→kK xs):=by
 unfold ji at h ⊢
 split at h
 omega
 rename_i h0
 rw [if_neg h0]
 obtain ⟨h1,h2⟩:=CX Kw xs _ h
 exact ⟨by omega,fun hn=>⟨by omega,h2 (by omega)⟩⟩
def jF (xs:List (List (List bZ))) (n:Int):Int:=if n - xs.length < 0 then -1 else lQ ji xs (n - xs.length)
theorem DX (xs:List (List (List bZ))) (n:Int) (h:0 ≤ jF xs n):jF xs n ≤ n∧(n ≤ 1048576→dY xs):=by
 unfold jF at h ⊢
 split at h
 omega
 rename_i h0
 rw [if_neg h0]
 obtain ⟨h1,h2⟩:=CX GG xs _ h
 exact ⟨by omega,fun hn=>⟨by omega,h2 (by omega)⟩⟩
end
section
variable {n:Nat}
set_option maxRecDepth 100000
set_option maxHeartbeats 1000000
instance (xs:List Int) [h:Q (dP xs)]:cX xs 1048576:=⟨h.h⟩
instance:ElB dP (fun y=>y.length ≤ 1048576):=⟨fun _ h=>h⟩
instance (xs:List (List Int)) [h:Q (eD xs)]:cX xs 1048576:=⟨h.h.1⟩
instance (xs:List (List Int)) [h:Q (eD xs)]:jW xs dP:=⟨h.h.2⟩
instance (xs:List aQ) [h:Q (eM xs)]:cX xs 1048576:=⟨h.h⟩
instance (xs:List Bool) [h:Q (ou xs)]:cX xs 1048576:=⟨h.h⟩
instance (xs:List bZ) [h:Q (ju xs)]:cX xs 1048576:=⟨h.h⟩
instance (x:ax) [h:Q (aJ x)]:Q (ju x.Prog):=⟨h.h.1⟩
instance (x:ax) [h:Q (aJ x)]:Q (eM x.Written):=⟨h.h.2.1⟩
instance (x:ax) [h:Q (aJ x)]:Q (eM x.Live):=⟨h.h.2.2.1⟩
instance (x:ax) [h:Q (aJ x)]:Q (dP x.Seen):=⟨h.h.2.2.2⟩
theorem aJ.of {x:ax} [h0:Q (ju x.Prog)] [h1:Q (eM x.Written)] [h2:Q (eM x.Live)] [h3:Q (dP x.Seen)]:Q (aJ x):=⟨h0.h,h1.h,h2.h,h3.h⟩
instance (Prog:List bZ) (A:Int) (Pc:Int) (Written:List aQ) (Live:List aQ) (jv:qY) (av:Int) (Exit:qE) (kg:Bool) (Seen:List Int) [h0:Q (ju Prog)] [h1:Q (eM Written)] [h2:Q (eM Live)] [h3:Q (dP Seen)]:Q (aJ (ax.mk Prog A Pc Written Live jv av Exit kg Seen)):=aJ.of (x:=ax.mk Prog A Pc Written Live jv av Exit kg Seen) (h0:=h0) (h1:=h1) (h2:=h2) (h3:=h3)
instance (xs:List ax) [h:Q (ki xs)]:cX xs 1048576:=⟨h.h.1⟩
instance (xs:List ax) [h:Q (ki xs)]:jW xs aJ:=⟨h.h.2⟩
instance (x:cE) [h:Q (dR x)]:Q (ou x.cG):=⟨h.h.1⟩
instance (x:cE) [h:Q (dR x)]:Q (eM x.dQ):=⟨h.h.2⟩
instance (xs:List cE) [h:Q (tf xs)]:cX xs 1048576:=⟨h.h.1⟩
instance (xs:List cE) [h:Q (tf xs)]:jW xs dR:=⟨h.h.2⟩
instance (x:aV) [h:Q (bt x)]:Q (eM x.ak):=⟨h.h.1⟩
instance (x:aV) [h:Q (bt x)]:Q (eD x.Out):=⟨h.h.2.1⟩
instance (x:aV) [h:Q (bt x)]:Q (ou x.bI):=⟨h.h.2.2.1⟩
instance (x:aV) [h:Q (bt x)]:Q (ki x.aa):=⟨h.h.2.2.2.1⟩
instance (x:aV) [h:Q (bt x)]:Q (dP x.cm):=⟨h.h.2.2.2.2.1⟩
instance (x:aV) [h:Q (bt x)]:Q (tf x.Tables):=⟨h.h.2.2.2.2.2⟩
instance (xs:List aV) [h:Q (xx xs)]:cX xs 1048576:=⟨h.h.1⟩
instance (xs:List aV) [h:Q (xx xs)]:jW xs bt:=⟨h.h.2⟩
instance (xs:List bP) [h:Q (c4 xs)]:cX xs 1048576:=⟨h.h⟩
theorem c4.of {xs:List bP} [h:cX xs n] (hn:n ≤ 1048576:=by decide):Q (c4 xs):=⟨eP h.h hn⟩
instance (xs:List bP) (k:Nat) [h:Q (c4 xs)]:Q (c4 (xs.take k)):=c4.of
instance (x:ap) [h:Q (aj x)]:Q (eD x.au):=⟨h.h.1⟩
instance (x:ap) [h:Q (aj x)]:Q (xx x.ai):=⟨h.h.2.1⟩
instance (x:ap) [h:Q (aj x)]:Q (c4 x.Buffer):=⟨h.h.2.2.1⟩
instance (x:ap) [h:Q (aj x)]:Q (c4 x.aD):=⟨h.h.2.2.2⟩
instance (x:aS) [h:Q (a_ x)]:Q (eD x.au):=⟨h.h.1⟩
instance (x:aS) [h:Q (a_ x)]:Q (ki x.aa):=⟨h.h.2.1⟩
instance (x:aS) [h:Q (a_ x)]:Q (dP x.cm):=⟨h.h.2.2⟩
instance (xs:List aS) [h:Q (LZ xs)]:jW xs a_:=⟨h.h.2⟩
instance (x:lF) [h:Q (yR x)]:Q (LZ x.ai):=⟨h.h.1⟩
instance (xs:List dF) [h:Q (ja xs)]:cX xs 1048576:=⟨h.h⟩
theorem ja.of {xs:List dF} [h:cX xs n] (hn:n ≤ 1048576:=by decide):Q (ja xs):=⟨eP h.h hn⟩
instance (xs:List dF) (k:Nat) [h:Q (ja xs)]:Q (ja (xs.take k)):=ja.of
instance (xs:List (List bZ)) [h:Q (kK xs)]:cX xs 1048576:=⟨h.h.1⟩
instance (xs:List (List bZ)) [h:Q (kK xs)]:jW xs ju:=⟨h.h.2⟩
instance:Q (kK []):=⟨by simp,fun x hx=>by cases hx⟩
instance (xs:List (List (List bZ))) [h:Q (dY xs)]:cX xs 1048576:=⟨h.h.1⟩
instance (xs:List (List (List bZ))) [h:Q (dY xs)]:jW xs kK:=⟨h.h.2⟩
end
end Go.Proofs.YtdliggkohdnipaaGreat.T
