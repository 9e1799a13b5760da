import Derived.Test.YtdliggkohdnipaaGreatRmr
import Derived.Test.YtdliggkohdnipaaGreatProg
set_option linter.unusedVariables false
set_option linter.unusedSimpArgs false
namespace Go.Proofs.YtdliggkohdnipaaGreat.T
open Go
section
variable {b:Bool} {ds ns:List D} {vs:List Nat} {a k m n:Nat} {rs:Rs}
class Q (p:Prop):Prop where
 h:p
class BE (b:Bool) (p q:outParam Prop):Prop where
 yes:b=true→p
 no:b=false→q
instance (priority:=low) (b:Bool):BE b (b=true) (b=false):=⟨id,id⟩
instance (p:Prop) {_:Decidable p}:BE (decide p) p (¬ p):=⟨of_decide_eq_true,of_decide_eq_false⟩
instance (a b:Int):BE (a == b) (a=b) (¬ a=b):=⟨fun h=>by simpa using h,fun h=>by simpa using h⟩
instance (a b:Int):BE (a != b) (¬ a=b) (a=b):=⟨fun h=>by simpa using h,fun h=>by simpa using h⟩
instance (b:Bool) (p q:Prop) [h:BE b p q]:BE (!b) q p:=⟨fun e=>h.no (by simpa using e),fun e=>h.yes (by simpa using e)⟩
instance (a b:Bool) (p q p' q':Prop) [h:BE a p q] [h':BE b p' q']:BE (a || b) (p ∨ p') (q∧q'):=
 ⟨fun e=>by rw [Bool.or_eq_true] at e;exact e.imp h.yes h'.yes,fun e=>by rw [Bool.or_eq_false_iff] at e;exact ⟨h.no e.1,h'.no e.2⟩⟩
class BF (us vs:List Value) (p:outParam Prop):Prop where
 h:jN us vs=true ↔ p
instance (k k':IntKind) (a b:Int):BF [.int k a] [.int k' b] (a=b):=⟨by simp [jN,xS]⟩
instance (k k':IntKind) (a b:Int) (x y:Value) (us vs:List Value) (p:Prop) [h:BF (x :: us) (y :: vs) p]:BF (.int k a :: x :: us) (.int k' b :: y :: vs) (a=b∧p):=⟨by rw [← h.h];show (_ && _)=true ↔ _;rw [Bool.and_eq_true];simp [xS]⟩
instance (a b:Bool) (x y:Value) (us vs:List Value) (p:Prop) [h:BF (x :: us) (y :: vs) p]:BF (.bool a :: x :: us) (.bool b :: y :: vs) (a=b∧p):=⟨by rw [← h.h];show (_ && _)=true ↔ _;rw [Bool.and_eq_true];simp [xS]⟩
instance (us vs:List Value) (p:Prop) [h:BF us vs p]:BE (jN us vs) p (¬ p):=⟨h.h.1,fun e e'=>by rw [h.h.2 e'] at e;cases e⟩
theorem aB {p q A B:Prop} [h:BE b p q] (h1:p→A) (h2:q→B): @Bool.rec (fun _=>Prop) B A b:=eJ (fun e=>h1 (h.yes e)) (fun e=>h2 (h.no e))
theorem cndT {p q A B:Prop} [h:BE b p q] (hq:¬ q) (hA:A): @Bool.rec (fun _=>Prop) B A b:=by
 cases hb:b with
 | true=>exact hA
 | false=>exact absurd (h.no hb) hq
theorem cndF {p q A B:Prop} [h:BE b p q] (hp:¬ p) (hB:B): @Bool.rec (fun _=>Prop) B A b:=by
 cases hb:b with
 | true=>exact absurd (h.yes hb) hp
 | false=>exact hB
class j6 {α:Type} (xs:List α) (S:outParam (α→Prop)):Prop where
 h:∀ y ∈ xs,S y
instance (priority:=low) {α:Type} (xs:List α):j6 xs (fun _=>True):=⟨fun _ _=>trivial⟩
class ElB {α:Type} (S: α→Prop) (B:outParam (α→Prop)):Prop where
 h:∀ y,S y→B y
instance (priority:=low) {α:Type} (S: α→Prop):ElB S (fun _=>True):=⟨fun _ _=>trivial⟩
theorem rz {α:Type} {f: α→D} {xs:List α} {S B: α→Prop} [hS:j6 xs S] [hB:ElB S B] {k:D→Prop} (c:∀ y,xs[m]? = some y→Q (S y)→B y→k (f y)) (h:m < xs.length:=by omega):IxW (xs.map f) (m:Int) k:=⟨m,f xs[m],rfl,by simp [h],c _ (by simp [h]) ⟨hS.h _ (List.getElem_mem h)⟩ (hB.h _ (hS.h _ (List.getElem_mem h)))⟩
theorem xN {α:Type} {f: α→D} {xs:List α} {S B: α→Prop} [hS:j6 xs S] [hB:ElB S B] {i:Int} {k:D→Prop} (c:∀ y,xs[i.toNat]? = some y→Q (S y)→B y→k (f y)) (h:0 ≤ i∧i < xs.length:=by omega):IxW (xs.map f) i k:=
 have h1:i.toNat < xs.length:=by omega
 ⟨i.toNat,f xs[i.toNat],by omega,by simp [h1],c _ (by simp [h1]) ⟨hS.h _ (List.getElem_mem h1)⟩ (hB.h _ (hS.h _ (List.getElem_mem h1)))⟩
class W6 (l:List D):Prop where
 h:l.length ≤ 1
instance (d:D):W6 [d]:=⟨Nat.le_refl _⟩
instance (l:List D) (k:Nat) (x:D) [h:W6 l]:W6 (l.set k x):=⟨by rw [List.length_set];exact h.h⟩
instance (l:List D) (x:D) [h1:W6 l] [h:WR x]:WL (l.set 0 x):=⟨fun y hy=>by
 match l,h1.h with
 | [],_=>cases hy
 | [d],_=>
  rw [List.set_cons_zero,List.mem_singleton] at hy
  rw [hy];exact h⟩
instance (d x:D) [h:WR x]:WL ([d].set 0 x):=⟨fun y hy=>by simp only [List.set_cons_zero,List.mem_singleton] at hy;rw [hy];exact h⟩
theorem rA {α:Type} {f: α→D} {xs:List α} {S B: α→Prop} [hS:j6 xs S] [hB:ElB S B] {k:D→Prop} (c:∀ y,xs[m]? = some y→Q (S y)→B y→k (f y)) (h:m < xs.length:=by omega): @Option.rec D (fun _=>Prop) False k ((xs.map f)[m]?):=
 aI (y:=xs[m]) (by simp [h]) (c _ (by simp [h]) ⟨hS.h _ (List.getElem_mem h)⟩ (hB.h _ (hS.h _ (List.getElem_mem h))))
class dc {α:Type} (xs:List α) (n:outParam Nat):Prop where
 h:xs.length ≤ n
instance {α:Type}:dc ([]:List α) 0:=⟨Nat.le_refl _⟩
instance {α:Type} (x: α) (l:List α) (n:Nat) [h:dc l n]:dc (x :: l) (n + 1):=⟨Nat.succ_le_succ h.h⟩
instance {α β:Type} (f: α→ β) (l:List α) (n:Nat) [h:dc l n]:dc (l.map f) n:=⟨by rw [List.length_map];exact h.h⟩
instance {α:Type} (k:Nat) (l:List α) (n:Nat) [h:dc l n]:dc (l.take k) n:=⟨Nat.le_trans (by rw [List.length_take];exact Nat.min_le_right ..) h.h⟩
instance {α:Type} (k:Nat) (l:List α) (n:Nat) [h:dc l n]:dc (l.drop k) n:=⟨Nat.le_trans (by rw [List.length_drop];exact Nat.sub_le ..) h.h⟩
instance {α:Type} (k:Nat) (x: α) (l:List α) (n:Nat) [h:dc l n]:dc (l.set k x) n:=⟨by rw [List.length_set];exact h.h⟩
instance {α:Type} (a b:List α) (n m:Nat) [h:dc a n] [h':dc b m]:dc (a ++ b) (n + m):=⟨by rw [List.length_append];exact Nat.add_le_add h.h h'.h⟩
instance {α:Type} (k:Nat) (x: α):dc (List.replicate k x) k:=⟨by rw [List.length_replicate];exact Nat.le_refl _⟩
theorem cB {b:Nat} {k:Prop} [h:PL ns] [ha:dc ds a] [hb:dc ns b] (hk:k) (hl:a + b ≤ 134217728:=by first|decide|omega):ZN ds ns k:=ES hk (Nat.le_trans (Nat.add_le_add ha.h hb.h) hl)
theorem xX {b:Nat} {k:Prop} [h:WL ns] [ha:dc ds a] [hb:dc ns b] (hk:k) (hl:a + b ≤ 134217728:=by first|decide|omega):ZO ds ns k:=appO hk (Nat.le_trans (Nat.add_le_add ha.h hb.h) hl)
def w_ (xs:List Nat):Rs→(Rs→Prop)→Prop
 | [],k=>k []
 | (a,⟨m,row⟩) :: l,k=>BR (C2 a xs) (w_ xs l k) (w_ xs l fun l=>k ((a,⟨m,row⟩) :: l))
theorem qH {xs:List Nat}:∀ {rs:Rs} {k:Rs→Prop},w_ xs rs k→∃ kr,k kr
 | [],k,h=>⟨_,h⟩
 | (a,⟨m,row⟩) :: l,k,h=>by
  rcases fY.1 h with ⟨_,h⟩|⟨_,h⟩
  exact qH (rs:=l) h
  exact (qH (rs:=l) h).elim fun kr h=>⟨_,h⟩
theorem Can.takeN {st bD wB:St} {k1:Nat} {p1:List (Nat×Nat)} {q1 L:Nat} (h:st.takeN k1 p1 q1 L=some bD) (hne:k1 ≠ L) (hL:L < 1000000) (hc:Can bD wB):Can st wB:=fun hR=>by
 obtain ⟨g1,h1⟩:=hR.takeN h hne hL
 exact hc h1
def yO (e:List En) (rs:Rs):List Nat→(List En→Rs→Prop)→Prop
 | [],k=>k e rs
 | v :: l,k=>lookW e v fun t=>mw t fun t=>match t with
  | .one (.c (.ref pl))=>(match pl with
   | ⟨b,p,q⟩=>BR (Nat.beq b v) (yO e rs l k) (BR (Nat.blt v 1000000) (pz rs b fun m row=>BR (!m && Nat.beq row.length 1 && p.isEmpty && Nat.beq q 0)
    (j4 v rs (Cl b v rs) fun rs=>yO (.app (LZ b v) :: e) rs l k) (TJ b p q v e rs fun e rs=>yO e rs l k)) False))
  | _=>yO e rs l k
theorem p7 {n:Nat}:∀ {l:List Nat} {e:List En} {rs:Rs} {k:List En→Rs→Prop},yO e rs l k→∃ e' fq,k e' fq∧∀ wB,Can (aR n e' fq) wB→Can (aR n e rs) wB
 | [],e,rs,k,h=>⟨e,rs,h,fun _ h=>h⟩
 | v :: l,e,rs,k,h=>by
  have h:=fZ.1 (qC h)
  generalize look e v=t at h
  split at h
  rename_i pl
  obtain ⟨b,p,q⟩:=pl
  simp only at h
  rcases fY.1 h with ⟨_,h⟩|⟨_,h⟩
  exact p7 h
  obtain ⟨h1,h2⟩:=bG h
  obtain ⟨m,row,h3,h4⟩:=ir (n:=n) (e:=e) h2
  rcases fY.1 h4 with ⟨_,h5⟩|⟨_,h5⟩
  obtain ⟨e',fq,h6,h7⟩:=p7 (n:=n) (l:=l) (gz h5)
  exact ⟨e',fq,h6,fun wB hc=>Can.name b v Ql (h7 wB hc) (Nat.le_of_ble_eq_true h1)⟩
  obtain ⟨h6,bD,h7,e1,Yv,h8,h9⟩:=Ms (n:=n) h5
  obtain ⟨e',fq,kU,oW⟩:=p7 (n:=n) (l:=l) h9
  exact ⟨e',fq,kU,fun wB hc=>Can.takeN h7 h6 (Nat.le_of_ble_eq_true h1) (h8 ▸ oW wB hc)⟩
  exact p7 h
def E2 (e:List En) (rs:Rs) (vs:List Nat) (E:List En) (R:Rs):Prop:=yO e rs vs fun e rs=>yM e E (EV rs R)
theorem E2.can {e E:List En} {R:Rs} (h:E2 e rs vs E R):Can (aR n e rs) (aR n E R):=by
 obtain ⟨e',fq,h1,h2⟩:=p7 (n:=n) h
 obtain ⟨h3,h4⟩:=wW h1
 exact h2 _ (EW h3 (wX h4))
inductive Yz {α:Type} (inv: α→Prop) (v: α→Nat) (vs:List Nat) (x: α) (E: α→List En) (R: α→Rs) (e:List En) (rs:Rs):Prop
 | mk (y: α) (h1:v y < v x) (h2:inv y) (h3:E2 e rs vs (E y) (R y))
theorem cI {P:Program} {w0:World} {g0:Gh} {n:Nat} {c:Code} {e:List En} {rs:Rs} {K:Kx} {α:Type} (js vs xs:List Nat) (xM: α→List En) (rts: α→Rs) (inv: α→Prop) (v: α→Nat) (x0: α) (h0:inv x0)
  (h:yO e rs vs fun e rs=>IR n e js fun ke=>w_ xs rs fun kr=>yM e (xM x0 ++ ke) (EV rs (rts x0 ++ kr))∧
   ∀ x,inv x→Hl (xM x) ke fun E=>Hl (rts x) kr fun R=>∀ N:Kx,(∀ ex e' fq,Kg (Yz inv v vs x (fun y=>xM y ++ ke) (fun y=>rts y ++ kr)) K ex e' fq→N ex e' fq)→wC P w0 g0 n c E R N):Qk P w0 g0 n c e rs K:=⟨by
 obtain ⟨e2,IK,h,hcan⟩:=p7 (n:=n) h
 obtain ⟨ke,h⟩:=vr h
 obtain ⟨kr,h1,h2⟩:=qH h
 obtain ⟨h3,h4⟩:=wW h1
 refine TC.loop (fun μ st=>∃ x,inv x∧ μ=v x∧Can st (aR n (xM x ++ ke) (rts x ++ kr))) (v x0) ⟨x0,h0,rfl,hcan _ (EW h3 (wX h4))⟩ fun μ st ⟨x,hi,hv,hc⟩=> ?_
 refine TC.can hc ?_
 refine (mJ (pN (pN (h2 x hi)) _ fun _ _ _ h=>h)).mono fun ex st ⟨e',fq,hs,hk⟩=> ?_
 subst hs
 cases ex with
 | normal=>
  obtain ⟨y,h3,h4,h5⟩:=hk
  exact ⟨v y,by rw [hv];exact h3,y,h4,rfl,h5.can⟩
 | _=>exact .mk hk⟩
def cz (p:Nat→Bool) (n:Nat):List Int:=((List.range n).filter p).map fun (k:Nat)=>(k:Int)
theorem Cy {p:Nat→Bool}:cz p 0=[]:=rfl
theorem eG {p:Nat→Bool}:cz p (n + 1)=cz p n ++ if p n=true then [(n:Int)] else []:=by
 simp only [cz,List.range_succ,List.filter_append,List.map_append,List.filter_cons,List.filter_nil]
 split <;> rfl
theorem gQ {p:Nat→Bool} {n:Nat}:(cz p n).length ≤ n:=by
 rw [cz,List.length_map]
 exact Nat.le_trans (List.length_filter_le ..) (by simp)
theorem kw {α:Type} {p: α→Bool} {xs:List α} (h:(xs.take k).all p=true):(∀ x,xs[k]? = some x→p x=false→xs.all p=false)∧(xs.length ≤ k→xs.all p=true):=
 ⟨fun x hx hp=>by rw [List.all_eq_false];exact ⟨x,List.mem_of_getElem? hx,by simp [hp]⟩,fun hk=>by rwa [List.take_of_length_le hk] at h⟩
theorem iS {α:Type} {p: α→Bool} {xs:List α} {x: α} (h:(xs.take k).all p=true) (hx:xs[k]? = some x) (hp:p x=true):(xs.take (k + 1)).all p=true:=by
 rw [List.take_add_one,hx,List.all_append,h]
 simp [hp]
theorem cvu {a:Int} {k:Int→Prop} (c:k a) (h:0 ≤ a:=by omega) (h2:a < 18446744073709551616:=by omega):Qa .u64 a k:=⟨a,by rw [IntKind.wrap_u64];omega,c⟩
theorem cvb {a:Int} {k:Int→Prop} (c:k a) (h:0 ≤ a:=by omega) (h2:a < 256:=by omega):Qa .u8 a k:=⟨a,by rw [IntKind.wrap_u8];omega,c⟩
theorem hda {e E:List En} {k:Prop} (h:yM e E k:=by repeat' first|exact rfl|refine And.intro ?_ ?_|exact True.intro|(refine eV ?_;simp [Cy];done)):yM e E k:=h
theorem iF {α:Type} {inv: α→Prop} {v: α→Nat} {x: α} {E: α→List En} {R: α→Rs} {e:List En} (y: α) (h2:inv y) (h3:E2 e rs vs (E y) (R y):=by repeat' first|exact rfl|refine And.intro ?_ ?_|exact True.intro|(refine eV ?_;simp;done)|(refine eV ?_;simp [List.take_add_one,List.set_set,eG, *];done)|(refine eV ?_;exact congrArg (fun z:Int=>(I z:TS)) (by omega))) (h1:v y < v x:=by first|omega|(dsimp only;omega)):Yz inv v vs x E R e rs:=⟨y,h1,h2,h3⟩
end
section
variable {k:Nat}
set_option maxRecDepth 100000
set_option maxHeartbeats 1000000
theorem ev {α:Type} {xs:List α} (h:k < xs.length):∃ x,xs[k]? = some x:=⟨xs[k],List.getElem?_eq_getElem h⟩
theorem og {α:Type} {xs ys:List α} {x: α} (h:xs.take k=ys.take k) (hx:xs[k]? = some x) (hy:ys[k]? = some x):xs.take (k + 1)=ys.take (k + 1):=by
 rw [List.take_add_one,List.take_add_one,h,hx,hy]
theorem sg {α:Type} {xs ys:List α} {x y: α} (hx:xs[k]? = some x) (hy:ys[k]? = some y) (h:x ≠ y):xs ≠ ys:=fun e=>by
 subst e
 rw [hx] at hy
 exact h (Option.some.inj hy)
theorem si {α:Type} {xs ys:List α} (hl:xs.length=ys.length) (h:xs.take k=ys.take k) (hk:xs.length ≤ k):xs=ys:=by
 rwa [List.take_of_length_le hk,List.take_of_length_le (by omega)] at h
def iu {α:Type} (f: α→Int→Int):List α→Int→Int
 | [],n=>n
 | x :: l,n=>if f x n < 0 then -1 else iu f l (f x n)
def eC:List (Int→Int)→Int→Int
 | [],n=>n
 | f :: l,n=>if f n < 0 then -1 else eC l (f n)
theorem sZ {α:Type} {f: α→Int→Int} {S: α→Prop} (hf:∀ x n,0 ≤ f x n→f x n ≤ n∧(n ≤ 1048576→S x)):∀ (xs:List α) (n:Int),0 ≤ iu f xs n→iu f xs n ≤ n∧(n ≤ 1048576→∀ x ∈ xs,S x)
 | [],n,h=>⟨by simp [iu],fun _ x hx=>by cases hx⟩
 | x :: l,n,h=>by
  unfold iu at h ⊢
  split at h
  omega
  rename_i h0
  rw [if_neg h0]
  have h1:=hf x n (by omega)
  have h2:=sZ hf l _ h
  refine ⟨by omega,fun hn y hy=> ?_⟩
  rcases List.mem_cons.1 hy with rfl|hy
  exact h1.2 hn
  exact h2.2 (by omega) y hy
theorem rH {α:Type} {f: α→Int→Int} {xs:List α} {x: α} (h:xs[k]? = some x) (n:Int):iu f (xs.drop k) n=if f x n < 0 then -1 else iu f (xs.drop (k + 1)) (f x n):=by
 have hk:=(List.getElem?_eq_some_iff.1 h).1
 rw [List.drop_eq_getElem_cons hk]
 have:xs[k]=x:=(List.getElem?_eq_some_iff.1 h).2
 rw [this]
 rfl
abbrev bH (x:Int):D:= .v (.int .i64 x)
abbrev aN (xs:List Int):D:= .sl 1 (xs.map bH)
def c4 (xs:List Int):Prop:=xs.length ≤ 1048576
abbrev Z4 (xs:List (List Int)):D:= .sl 1 (xs.map aN)
def dY (xs:List (List Int)):Prop:=xs.length ≤ 1048576∧∀ x ∈ xs,c4 x
structure aL where
 aJ:Int
 aT:Int
 deriving DecidableEq
abbrev gB (x:aL):List D:=[.v (.int .i64 x.aJ), .v (.int .i64 x.aT)]
abbrev aQ (x:aL):D:= .st (gB x)
abbrev Z5 (xs:List aL):D:= .sl 2 (xs.map aQ)
def dZ (xs:List aL):Prop:=xs.length ≤ 1048576
abbrev bz (x:Bool):D:= .v (.bool x)
abbrev Z6 (xs:List Bool):D:= .sl 1 (xs.map bz)
def m4 (xs:List Bool):Prop:=xs.length ≤ 1048576
structure iK where
 Op:Int
 X:Int
 deriving DecidableEq
abbrev E3 (x:iK):List D:=[.v (.int .i64 x.Op), .v (.int .i64 x.X)]
abbrev jt (x:iK):D:= .st (E3 x)
abbrev dInsS (xs:List iK):D:= .sl 2 (xs.map jt)
def qI (xs:List iK):Prop:=xs.length ≤ 1048576
structure mA where
 bq:Int
 Post:Int
 Open:Bool
 deriving DecidableEq
abbrev s0 (x:mA):List D:=[.v (.int .i64 x.bq), .v (.int .i64 x.Post), .v (.bool x.Open)]
structure kF where
 Kind:Int
 aJ:Int
 Write:Bool
 N:Int
 deriving DecidableEq
abbrev oJ (x:kF):List D:=[.v (.int .i64 x.Kind), .v (.int .i64 x.aJ), .v (.bool x.Write), .v (.int .i64 x.N)]
structure av where
 Prog:List iK
 A:Int
 Pc:Int
 Written:List aL
 Live:List aL
 iG:mA
 ax:Int
 Exit:kF
 i_:Bool
 Seen:List Int
 deriving DecidableEq
abbrev bB (x:av):List D:=[.sl 2 (x.Prog.map jt), .v (.int .i64 x.A), .v (.int .i64 x.Pc), .sl 2 (x.Written.map aQ), .sl 2 (x.Live.map aQ), .v (.int .i64 x.iG.bq), .v (.int .i64 x.iG.Post), .v (.bool x.iG.Open), .v (.int .i64 x.ax), .v (.int .i64 x.Exit.Kind), .v (.int .i64 x.Exit.aJ), .v (.bool x.Exit.Write), .v (.int .i64 x.Exit.N), .v (.bool x.i_), .sl 1 (x.Seen.map bH)]
abbrev aY (x:av):D:= .st (bB x)
def aG (x:av):Prop:=qI x.Prog∧dZ x.Written∧dZ x.Live∧c4 x.Seen
abbrev W7 (xs:List av):D:= .sl 15 (xs.map aY)
def ju (xs:List av):Prop:=xs.length ≤ 1048576∧∀ x ∈ xs,aG x
structure bQ where
 bY:List Bool
 c8:List aL
 deriving DecidableEq
abbrev fU (x:bQ):List D:=[.sl 1 (x.bY.map bz), .sl 2 (x.c8.map aQ)]
abbrev bS (x:bQ):D:= .st (fU x)
def de (x:bQ):Prop:=m4 x.bY∧dZ x.c8
abbrev Z7 (xs:List bQ):D:= .sl 2 (xs.map bS)
def rI (xs:List bQ):Prop:=xs.length ≤ 1048576∧∀ x ∈ xs,de x
structure aO where
 ai:List aL
 Out:List (List Int)
 a_:List Bool
 aa:List av
 bX:List Int
 ax:Int
 bq:Int
 Tables:List bQ
 Own:Int
 deriving DecidableEq
abbrev va (x:aO):List D:=[.sl 2 (x.ai.map aQ), .sl 1 (x.Out.map aN), .sl 1 (x.a_.map bz), .sl 15 (x.aa.map aY), .sl 1 (x.bX.map bH), .v (.int .i64 x.ax), .v (.int .i64 x.bq), .sl 2 (x.Tables.map bS), .v (.int .i64 x.Own)]
abbrev bh (x:aO):D:= .st (va x)
def bf (x:aO):Prop:=dZ x.ai∧dY x.Out∧m4 x.a_∧ju x.aa∧c4 x.bX∧rI x.Tables
abbrev dMonS (xs:List aO):D:= .sl 9 (xs.map bh)
def tR (xs:List aO):Prop:=xs.length ≤ 1048576∧∀ x ∈ xs,bf x
structure bt where
 Tag:Int
 aJ:Int
 Host:Int
 aT:Int
 deriving DecidableEq
abbrev nQ (x:bt):List D:=[.v (.int .i64 x.Tag), .v (.int .i64 x.aJ), .v (.int .i64 x.Host), .v (.int .i64 x.aT)]
abbrev aA (x:bt):D:= .st (nQ x)
abbrev W8 (xs:List bt):D:= .sl 4 (xs.map aA)
def dh (xs:List bt):Prop:=xs.length ≤ 1048576
structure an where
 au:List (List Int)
 ap:List aO
 Buffer:List bt
 aC:List bt
 deriving DecidableEq
abbrev aq (x:an):List D:=[.sl 1 (x.au.map aN), .sl 9 (x.ap.map bh), .sl 4 (x.Buffer.map aA), .sl 4 (x.aC.map aA)]
def aj (x:an):Prop:=dY x.au∧tR x.ap∧dh x.Buffer∧dh x.aC
structure aV where
 au:List (List Int)
 aa:List av
 bX:List Int
 ax:Int
 deriving DecidableEq
abbrev bC (x:aV):List D:=[.sl 1 (x.au.map aN), .sl 15 (x.aa.map aY), .sl 1 (x.bX.map bH), .v (.int .i64 x.ax)]
def aW (x:aV):Prop:=dY x.au∧ju x.aa∧c4 x.bX
structure IW where
 Ok:Bool
 N:Int
 deriving DecidableEq
abbrev Um (x:IW):List D:=[.v (.bool x.Ok), .v (.int .i64 x.N)]
structure gn where
 Kind:Int
 M:Int
 G:Int
 X:Int
 Y:Int
 Z:Int
 deriving DecidableEq
abbrev BG (x:gn):List D:=[.v (.int .i64 x.Kind), .v (.int .i64 x.M), .v (.int .i64 x.G), .v (.int .i64 x.X), .v (.int .i64 x.Y), .v (.int .i64 x.Z)]
abbrev lP (x:gn):D:= .st (BG x)
abbrev dActS (xs:List gn):D:= .sl 6 (xs.map lP)
def vw (xs:List gn):Prop:=xs.length ≤ 1048576
def iv (xs:List Int) (n:Int):Int:=if n - xs.length < 0 then -1 else n - xs.length
theorem s3 (xs:List Int) (n:Int) (h:0 ≤ iv xs n):iv xs n ≤ n∧(n ≤ 1048576→c4 xs):=by
 unfold iv at h ⊢
 split at h
 omega
 rename_i h0
 rw [if_neg h0]
 exact ⟨by omega,fun hn=>by unfold c4;omega⟩
def bP (xs:List (List Int)) (n:Int):Int:=if n - xs.length < 0 then -1 else iu iv xs (n - xs.length)
theorem yP (xs:List (List Int)) (n:Int) (h:0 ≤ bP xs n):bP xs n ≤ n∧(n ≤ 1048576→dY xs):=by
 unfold bP at h ⊢
 split at h
 omega
 rename_i h0
 rw [if_neg h0]
 obtain ⟨h1,h2⟩:=sZ s3 xs _ h
 exact ⟨by omega,fun hn=>⟨by omega,h2 (by omega)⟩⟩
def bE (xs:List aL) (n:Int):Int:=if n - xs.length < 0 then -1 else n - xs.length
theorem qJ (xs:List aL) (n:Int) (h:0 ≤ bE xs n):bE xs n ≤ n∧(n ≤ 1048576→dZ xs):=by
 unfold bE at h ⊢
 split at h
 omega
 rename_i h0
 rw [if_neg h0]
 exact ⟨by omega,fun hn=>by unfold dZ;omega⟩
def dF (xs:List Bool) (n:Int):Int:=if n - xs.length < 0 then -1 else n - xs.length
theorem yQ (xs:List Bool) (n:Int) (h:0 ≤ dF xs n):dF xs n ≤ n∧(n ≤ 1048576→m4 xs):=by
 unfold dF at h ⊢
 split at h
 omega
 rename_i h0
 rw [if_neg h0]
 exact ⟨by omega,fun hn=>by unfold m4;omega⟩
def f_ (xs:List iK) (n:Int):Int:=if n - xs.length < 0 then -1 else n - xs.length
theorem IX (xs:List iK) (n:Int) (h:0 ≤ f_ xs n):f_ xs n ≤ n∧(n ≤ 1048576→qI xs):=by
 unfold f_ at h ⊢
 split at h
 omega
 rename_i h0
 rw [if_neg h0]
 exact ⟨by omega,fun hn=>by unfold qI;omega⟩
def iT (x:av) (n:Int):Int:=eC [f_ x.Prog,bE x.Written,bE x.Live,iv x.Seen] n
theorem E4 (x:av) (n:Int) (h:0 ≤ iT x n):iT x n ≤ n∧(n ≤ 1048576→aG x):=by
 unfold iT at h ⊢
 simp only [eC] at h ⊢
 have e0:=IX x.Prog (n)
 have e1:=qJ x.Written (f_ x.Prog (n))
 have e2:=qJ x.Live (bE x.Written (f_ x.Prog (n)))
 have e3:=s3 x.Seen (bE x.Live (bE x.Written (f_ x.Prog (n))))
 repeat' split at h
 all_goals (try omega)
 simp only [*,if_false]
 simp only [Int.not_lt] at *
 refine ⟨by omega,fun hn=>⟨by exact (e0 (by omega)).2 (by omega),by exact (e1 (by omega)).2 (by omega),by exact (e2 (by omega)).2 (by omega),by exact (e3 (by omega)).2 (by omega)⟩⟩
def ew (xs:List av) (n:Int):Int:=if n - xs.length < 0 then -1 else iu iT xs (n - xs.length)
theorem Cz (xs:List av) (n:Int) (h:0 ≤ ew xs n):ew xs n ≤ n∧(n ≤ 1048576→ju xs):=by
 unfold ew at h ⊢
 split at h
 omega
 rename_i h0
 rw [if_neg h0]
 obtain ⟨h1,h2⟩:=sZ E4 xs _ h
 exact ⟨by omega,fun hn=>⟨by omega,h2 (by omega)⟩⟩
def mB (x:bQ) (n:Int):Int:=eC [dF x.bY,bE x.c8] n
theorem IY (x:bQ) (n:Int) (h:0 ≤ mB x n):mB x n ≤ n∧(n ≤ 1048576→de x):=by
 unfold mB at h ⊢
 simp only [eC] at h ⊢
 have e0:=yQ x.bY (n)
 have e1:=qJ x.c8 (dF x.bY (n))
 repeat' split at h
 all_goals (try omega)
 simp only [*,if_false]
 simp only [Int.not_lt] at *
 refine ⟨by omega,fun hn=>⟨by exact (e0 (by omega)).2 (by omega),by exact (e1 (by omega)).2 (by omega)⟩⟩
def l8 (xs:List bQ) (n:Int):Int:=if n - xs.length < 0 then -1 else iu mB xs (n - xs.length)
theorem OO (xs:List bQ) (n:Int) (h:0 ≤ l8 xs n):l8 xs n ≤ n∧(n ≤ 1048576→rI xs):=by
 unfold l8 at h ⊢
 split at h
 omega
 rename_i h0
 rw [if_neg h0]
 obtain ⟨h1,h2⟩:=sZ IY xs _ h
 exact ⟨by omega,fun hn=>⟨by omega,h2 (by omega)⟩⟩
def m5 (x:aO) (n:Int):Int:=eC [bE x.ai,bP x.Out,dF x.a_,ew x.aa,iv x.bX,l8 x.Tables] n
theorem MF (x:aO) (n:Int) (h:0 ≤ m5 x n):m5 x n ≤ n∧(n ≤ 1048576→bf x):=by
 unfold m5 at h ⊢
 simp only [eC] at h ⊢
 have e0:=qJ x.ai (n)
 have e1:=yP x.Out (bE x.ai (n))
 have e2:=yQ x.a_ (bP x.Out (bE x.ai (n)))
 have e3:=Cz x.aa (dF x.a_ (bP x.Out (bE x.ai (n))))
 have e4:=s3 x.bX (ew x.aa (dF x.a_ (bP x.Out (bE x.ai (n)))))
 have e5:=OO x.Tables (iv x.bX (ew x.aa (dF x.a_ (bP x.Out (bE x.ai (n))))))
 repeat' split at h
 all_goals (try omega)
 simp only [*,if_false]
 simp only [Int.not_lt] at *
 refine ⟨by omega,fun hn=>⟨by exact (e0 (by omega)).2 (by omega),by exact (e1 (by omega)).2 (by omega),by exact (e2 (by omega)).2 (by omega),by exact (e3 (by omega)).2 (by omega),by exact (e4 (by omega)).2 (by omega),by exact (e5 (by omega)).2 (by omega)⟩⟩
def iL (xs:List aO) (n:Int):Int:=if n - xs.length < 0 then -1 else iu m5 xs (n - xs.length)
theorem IZ (xs:List aO) (n:Int) (h:0 ≤ iL xs n):iL xs n ≤ n∧(n ≤ 1048576→tR xs):=by
 unfold iL at h ⊢
 split at h
 omega
 rename_i h0
 rw [if_neg h0]
 obtain ⟨h1,h2⟩:=sZ MF xs _ h
 exact ⟨by omega,fun hn=>⟨by omega,h2 (by omega)⟩⟩
def gW (xs:List bt) (n:Int):Int:=if n - xs.length < 0 then -1 else n - xs.length
theorem vz (xs:List bt) (n:Int) (h:0 ≤ gW xs n):gW xs n ≤ n∧(n ≤ 1048576→dh xs):=by
 unfold gW at h ⊢
 split at h
 omega
 rename_i h0
 rw [if_neg h0]
 exact ⟨by omega,fun hn=>by unfold dh;omega⟩
def mC (x:an) (n:Int):Int:=eC [bP x.au,iL x.ap,gW x.Buffer,gW x.aC] n
theorem I0 (x:an) (n:Int) (h:0 ≤ mC x n):mC x n ≤ n∧(n ≤ 1048576→aj x):=by
 unfold mC at h ⊢
 simp only [eC] at h ⊢
 have e0:=yP x.au (n)
 have e1:=IZ x.ap (bP x.au (n))
 have e2:=vz x.Buffer (iL x.ap (bP x.au (n)))
 have e3:=vz x.aC (gW x.Buffer (iL x.ap (bP x.au (n))))
 repeat' split at h
 all_goals (try omega)
 simp only [*,if_false]
 simp only [Int.not_lt] at *
 refine ⟨by omega,fun hn=>⟨by exact (e0 (by omega)).2 (by omega),by exact (e1 (by omega)).2 (by omega),by exact (e2 (by omega)).2 (by omega),by exact (e3 (by omega)).2 (by omega)⟩⟩
def sj (xs:List gn) (n:Int):Int:=if n - xs.length < 0 then -1 else n - xs.length
theorem I1 (xs:List gn) (n:Int) (h:0 ≤ sj xs n):sj xs n ≤ n∧(n ≤ 1048576→vw xs):=by
 unfold sj at h ⊢
 split at h
 omega
 rename_i h0
 rw [if_neg h0]
 exact ⟨by omega,fun hn=>by unfold vw;omega⟩
theorem I2 (x:List Int) (n:Int) (h:0 ≤ n):iv x n ≤ n:=by
 by_cases g:0 ≤ iv x n
 exact (s3 x n g).1
 omega
theorem fw (x:List (List Int)) (n:Int) (h:0 ≤ n):bP x n ≤ n:=by
 by_cases g:0 ≤ bP x n
 exact (yP x n g).1
 omega
theorem eD (x:List aL) (n:Int) (h:0 ≤ n):bE x n ≤ n:=by
 by_cases g:0 ≤ bE x n
 exact (qJ x n g).1
 omega
theorem kG (x:List Bool) (n:Int) (h:0 ≤ n):dF x n ≤ n:=by
 by_cases g:0 ≤ dF x n
 exact (yQ x n g).1
 omega
theorem p8 (x:List iK) (n:Int) (h:0 ≤ n):f_ x n ≤ n:=by
 by_cases g:0 ≤ f_ x n
 exact (IX x n g).1
 omega
theorem rJ (x:List av) (n:Int) (h:0 ≤ n):ew x n ≤ n:=by
 by_cases g:0 ≤ ew x n
 exact (Cz x n g).1
 omega
theorem xa (x:List aO) (n:Int) (h:0 ≤ n):iL x n ≤ n:=by
 by_cases g:0 ≤ iL x n
 exact (IZ x n g).1
 omega
theorem CA (x:List bt) (n:Int) (h:0 ≤ n):gW x n ≤ n:=by
 by_cases g:0 ≤ gW x n
 exact (vz x n g).1
 omega
end
set_option maxRecDepth 100000
set_option maxHeartbeats 1000000
instance (xs:List Int) [h:Q (c4 xs)]:dc xs 1048576:=⟨h.h⟩
instance:ElB c4 (fun y=>y.length ≤ 1048576):=⟨fun _ h=>h⟩
instance (xs:List (List Int)) [h:Q (dY xs)]:dc xs 1048576:=⟨h.h.1⟩
instance (xs:List (List Int)) [h:Q (dY xs)]:j6 xs c4:=⟨h.h.2⟩
instance (xs:List aL) [h:Q (dZ xs)]:dc xs 1048576:=⟨h.h⟩
instance (xs:List Bool) [h:Q (m4 xs)]:dc xs 1048576:=⟨h.h⟩
instance (xs:List iK) [h:Q (qI xs)]:dc xs 1048576:=⟨h.h⟩
instance (x:av) [h:Q (aG x)]:Q (qI x.Prog):=⟨h.h.1⟩
instance (x:av) [h:Q (aG x)]:Q (dZ x.Written):=⟨h.h.2.1⟩
instance (x:av) [h:Q (aG x)]:Q (dZ x.Live):=⟨h.h.2.2.1⟩
instance (x:av) [h:Q (aG x)]:Q (c4 x.Seen):=⟨h.h.2.2.2⟩
theorem aG.of {x:av} [h0:Q (qI x.Prog)] [h1:Q (dZ x.Written)] [h2:Q (dZ x.Live)] [h3:Q (c4 x.Seen)]:Q (aG x):=⟨h0.h,h1.h,h2.h,h3.h⟩
instance (Prog:List iK) (A:Int) (Pc:Int) (Written:List aL) (Live:List aL) (iG:mA) (ax:Int) (Exit:kF) (i_:Bool) (Seen:List Int) [h0:Q (qI Prog)] [h1:Q (dZ Written)] [h2:Q (dZ Live)] [h3:Q (c4 Seen)]:Q (aG (av.mk Prog A Pc Written Live iG ax Exit i_ Seen)):=aG.of (x:=av.mk Prog A Pc Written Live iG ax Exit i_ Seen) (h0:=h0) (h1:=h1) (h2:=h2) (h3:=h3)
instance (xs:List av) [h:Q (ju xs)]:dc xs 1048576:=⟨h.h.1⟩
instance (xs:List av) [h:Q (ju xs)]:j6 xs aG:=⟨h.h.2⟩
instance (x:bQ) [h:Q (de x)]:Q (m4 x.bY):=⟨h.h.1⟩
instance (x:bQ) [h:Q (de x)]:Q (dZ x.c8):=⟨h.h.2⟩
instance (xs:List bQ) [h:Q (rI xs)]:dc xs 1048576:=⟨h.h.1⟩
instance (xs:List bQ) [h:Q (rI xs)]:j6 xs de:=⟨h.h.2⟩
instance (x:aO) [h:Q (bf x)]:Q (dZ x.ai):=⟨h.h.1⟩
instance (x:aO) [h:Q (bf x)]:Q (dY x.Out):=⟨h.h.2.1⟩
instance (x:aO) [h:Q (bf x)]:Q (m4 x.a_):=⟨h.h.2.2.1⟩
instance (x:aO) [h:Q (bf x)]:Q (ju x.aa):=⟨h.h.2.2.2.1⟩
instance (x:aO) [h:Q (bf x)]:Q (c4 x.bX):=⟨h.h.2.2.2.2.1⟩
instance (x:aO) [h:Q (bf x)]:Q (rI x.Tables):=⟨h.h.2.2.2.2.2⟩
instance (xs:List aO) [h:Q (tR xs)]:dc xs 1048576:=⟨h.h.1⟩
instance (xs:List aO) [h:Q (tR xs)]:j6 xs bf:=⟨h.h.2⟩
instance (xs:List bt) [h:Q (dh xs)]:dc xs 1048576:=⟨h.h⟩
theorem dh.of {xs:List bt} {n:Nat} [h:dc xs n] (hn:n ≤ 1048576:=by decide):Q (dh xs):=⟨Nat.le_trans h.h hn⟩
instance (xs:List bt) (k:Nat) [h:Q (dh xs)]:Q (dh (xs.take k)):=dh.of
instance (x:an) [h:Q (aj x)]:Q (dY x.au):=⟨h.h.1⟩
instance (x:an) [h:Q (aj x)]:Q (tR x.ap):=⟨h.h.2.1⟩
instance (x:an) [h:Q (aj x)]:Q (dh x.Buffer):=⟨h.h.2.2.1⟩
instance (x:an) [h:Q (aj x)]:Q (dh x.aC):=⟨h.h.2.2.2⟩
instance (x:aV) [h:Q (aW x)]:Q (dY x.au):=⟨h.h.1⟩
instance (x:aV) [h:Q (aW x)]:Q (ju x.aa):=⟨h.h.2.1⟩
instance (x:aV) [h:Q (aW x)]:Q (c4 x.bX):=⟨h.h.2.2⟩
instance (xs:List gn) [h:Q (vw xs)]:dc xs 1048576:=⟨h.h⟩
end Go.Proofs.YtdliggkohdnipaaGreat.T
