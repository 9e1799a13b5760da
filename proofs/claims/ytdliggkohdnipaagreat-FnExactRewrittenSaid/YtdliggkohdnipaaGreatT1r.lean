import Derived.WalkKit
import Derived.ProofKit
import Derived.OpenShut
import Derived.Lib.Hide
import Derived.Deep.LoopGhost
import Derived.Below
set_option linter.unusedVariables false
set_option linter.unusedSimpArgs false
namespace Go.Proofs.YtdliggkohdnipaaGreat.T
open Go
inductive D where
 | v (x:Value)
 | sl (sz:Nat) (ds:List D)
 | st (ds:List D)
 | hole
 deriving Inhabited
def D.row:D→List D
 | .st ds=>ds
 | d=>[d]
def plain:Value→Bool
 | .bool _| .int _ _| .string _=>true
 | _=>false
structure Pl where
 k:Nat
 p:List (Nat×Nat)
 q:Nat
inductive Tag where
 | ro
 | outer
 | box (k:Nat)
 | cQ (k:Nat) (p:List (Nat×Nat)) (q:Nat)
def Tag.gu : Tag→Option Nat
 | .box k=>some k
 | .cQ k _ _=>some k
 | _=>none
structure Gh where
 o:Nat→Tag
 ad:Nat→List (Nat×Nat)→Nat×Nat
 cv:Nat→List (Nat×Nat)→Nat→Value
def bg (x:Nat×Nat) (q:Nat):Addr:=⟨x.1,x.2 + q,none⟩
def most:Nat:=9223372036854775807
inductive Ro (w:World) (o:Nat→Tag):D→Value→Prop
 | v (x:Value) (h:plain x=true):Ro w o (.v x) x
 | nil (sz:Nat) (ad:Option Addr) (c:Nat):Ro w o (.sl sz []) (.slice ad 0 c)
 | sl (sz:Nat) (ds:List D) (b off n c:Nat) (us:Nat→Value) (hn:ds.length=n) (hm:n ≤ most) (hnc:n ≤ c) (ho:o b= .ro)
   (hrow:∀ d ∈ ds,d.row.length=sz)
   (hcell:∀ t,t < n * sz→w.cell? ⟨b,off + t,none⟩=some (us t))
   (hel:∀ (i:Nat) d,ds[i]? = some d→∀ (j:Nat) c',d.row[j]? = some c'→Ro w o c' (us (i * sz + j))):Ro w o (.sl sz ds) (.slice (some ⟨b,off,none⟩) n c)
inductive Ow (w:World) (g:Gh) (k:Nat):List (Nat×Nat)→Nat→D→Prop
 | v (p:List (Nat×Nat)) (q:Nat) (x:Value) (h:plain x=true) (hc:g.cv k p q=x):Ow w g k p q (.v x)
 | hole (p:List (Nat×Nat)) (q:Nat):Ow w g k p q .hole
 | nil (p:List (Nat×Nat)) (q:Nat) (sz:Nat) (hc:g.cv k p q= .slice none 0 0):Ow w g k p q (.sl sz [])
 | sl (p:List (Nat×Nat)) (q:Nat) (sz:Nat) (ds:List D) (b off n c:Nat) (cs:Array Value) (e:TypeId)
   (hc:g.cv k p q= .slice (some ⟨b,off,none⟩) n c) (hn:ds.length=n) (hm:n ≤ most) (hnc:n ≤ c) (uA:c ≤ 9223372036854775807) (ho:g.o b= .cQ k p q)
   (hb:w.heap[b]? = some (.cells cs e (0,0))) (hfit:off + c * sz ≤ cs.size)
   (hrow:∀ d ∈ ds,d.row.length=sz)
   (had:∀ i,i < n→g.ad k (p ++ [(q,i)])=(b,off + i * sz))
   (hcell:∀ i j,i < n→j < sz→w.cell? ⟨b,off + i * sz + j,none⟩=some (g.cv k (p ++ [(q,i)]) j))
   (hel:∀ (i:Nat) d,ds[i]? = some d→∀ (j:Nat) c',d.row[j]? = some c'→Ow w g k (p ++ [(q,i)]) j c'):Ow w g k p q (.sl sz ds)
inductive C where
 | ro (d:D)
 | own (d:D)
 | ref (pl:Pl)
 | dead
inductive TV where
 | c (c:C)
 | agg (cs:List C)
 | ptr (pl:Pl)
 | bV (ds:List D)
 | CV (oC:List Pl)
 | o3 (oC:List Pl)
 | cut (pl:Pl) (sz lo hi:Nat)
 | dead
inductive TS where
 | one (t:TV)
 | lp (ts:List TV)
 | fn (f:FuncId) (fk:List TV)
structure Rt where
 mem:Bool
 row:List C
structure St where
 tmps:List TS
 roots:List (Nat×Rt)
def St.root (st:St) (k:Nat):Option Rt:=(st.roots.find? fun x=>x.1 == k).map (·.2)
def lE (w:World) (g:Gh) (k q:Nat):C→Prop
 | .ro d=>Ro w g.o d (g.cv k [] q)
 | .own d=>Ow w g k [] q d
 | .ref pl=>g.cv k [] q=g.cv pl.k pl.p pl.q∧(g.cv k [] q).oneCell'=true
 | .dead=>True
def fO (w:World) (g:Gh):C→Value→Prop
 | .ro d,u=>Ro w g.o d u
 | .own _,_=>False
 | .ref pl,u=>u=g.cv pl.k pl.p pl.q∧u.oneCell'=true
 | .dead,_=>True
inductive ef (w:World) (g:Gh):TV→Value→Prop
 | c (c:C) (u:Value) (h:fO w g c u):ef w g (.c c) u
 | agg (cs:List C) (us:Array Value) (hs:us.size=cs.length) (h:∀ (j:Nat) c u,cs[j]? = some c→us[j]? = some u→fO w g c u):ef w g (.agg cs) (.agg us)
 | ptr (pl:Pl):ef w g (.ptr pl) (.pointer (some (bg (g.ad pl.k pl.p) pl.q)))
 | bV (ds:List D) (b off:Nat) (us:Nat→Value) (ho:g.o b= .ro) (hcell:∀ (j:Nat) d,ds[j]? = some d→w.cell? ⟨b,off + j,none⟩=some (us j)∧Ro w g.o d (us j)):
   ef w g (.bV ds) (.pointer (some ⟨b,off,none⟩))
 | CV (oC:List Pl) (b off:Nat) (ho:g.o b= .ro) (hcell:∀ (j:Nat) pl,oC[j]? = some pl→w.cell? ⟨b,off + j,none⟩=some (.pointer (some (bg (g.ad pl.k pl.p) pl.q)))):
   ef w g (.CV oC) (.slice (some ⟨b,off,none⟩) oC.length oC.length)
 | o3 (oC:List Pl) (b off:Nat) (ho:g.o b= .ro) (hcell:∀ (j:Nat) pl,oC[j]? = some pl→w.cell? ⟨b,off + j,none⟩=some (.pointer (some (bg (g.ad pl.k pl.p) pl.q)))):
   ef w g (.o3 oC) (.pointer (some ⟨b,off,none⟩))
 | cut (pl:Pl) (sz lo hi b off n c:Nat) (hc:g.cv pl.k pl.p pl.q= .slice (some ⟨b,off,none⟩) n c) (h1:lo < hi) (h2:hi ≤ n) (h3:n ≤ c):
   ef w g (.cut pl sz lo hi) (.slice (some ⟨b,off + lo * sz,none⟩) (hi - lo) (c - lo))
 | dead (u:Value):ef w g .dead u
inductive dy (w:World) (g:Gh):TS→Value→Prop
 | one (t:TV) (u:Value) (h:ef w g t u):dy w g (.one t) u
 | lp (ts:List TV) (us:Array Value) (hs:us.size=ts.length) (h:∀ (j:Nat) t u,ts[j]? = some t→us[j]? = some u→ef w g t u):dy w g (.lp ts) (.tuple us)
 | fn (f:FuncId) (fk:List TV) (us:Array Value) (hs:us.size=fk.length) (h:∀ (j:Nat) t u,fk[j]? = some t→us[j]? = some u→ef w g t u):dy w g (.fn f fk) (.func (.func f) #[] us)
structure Rk (w:World) (g:Gh) (roots:Nat→Option Rt):Prop where
 cell:∀ k r,roots k=some r→∀ (q:Nat) c,r.row[q]? = some c→lE w g k q c
 mem:∀ k r,roots k=some r→r.mem=true→g.o (g.ad k []).1= .box k∧(∃ cs e,w.heap[(g.ad k []).1]? = some (.cells cs e (0,0)))∧
  ∀ q,q < r.row.length→w.cell? (bg (g.ad k []) q)=some (g.cv k [] q)
abbrev cm:Nat:=1000000
abbrev dN:Nat:=1000001
structure lF (w0:World) (g0:Gh) (w:World) (g:Gh):Prop where
 os:w.os=w0.os
 tape:w.tape=w0.tape
 output:w.output=w0.output
 size:w0.heap.size ≤ w.heap.size
 block:∀ b,b < w0.heap.size→(g0.o b= .ro ∨ g0.o b= .outer)→w.heap[b]? = w0.heap[b]? ∧g.o b=g0.o b
 fresh:∀ b,w.heap.size ≤ b→g.o b= .outer
 old:∀ b,b < w.heap.size→g.o b= .outer→b < w0.heap.size∧g0.o b= .outer
 uB:(∀ q,g.cv cm [] q=g0.cv cm [] q)∧g.ad dN []=g0.ad dN []
 ie:∀ b,g.o b ≠ .box cm
structure Rel (w0:World) (g0:Gh) (st:St) (a:Act) (w:World) (g:Gh):Prop where
 tm:∀ (i:Nat) tv,st.tmps[i]? = some tv→dy w g tv (a.tmps.getD i undef)
 sz:a.tmps.size=st.tmps.length
 df:a.defers=[]
 rt:Rk w g st.root
 ks:lF w0 g0 w g
structure nw (w:World) (g:Gh) (w':World) (g':Gh) (keep:Nat→Prop):Prop where
 ro:∀ b,g.o b= .ro→g'.o b= .ro∧w'.heap[b]? = w.heap[b]?
 own:∀ k,keep k→∀ b,(g.o b).gu = some k→g'.o b=g.o b∧w'.heap[b]? = w.heap[b]?
 ad:∀ k,keep k→g'.ad k=g.ad k
 cv:∀ k,keep k→g'.cv k=g.cv k
theorem iP {w w':World} {b:Nat} (h:w'.heap[b]? = w.heap[b]?) (t:Nat):w'.cell? ⟨b,t,none⟩=w.cell? ⟨b,t,none⟩:=by simp [World.cell?,h]
theorem Ro.mono {w w':World} {o o':Nat→Tag} (h:∀ b,o b= .ro→o' b= .ro∧w'.heap[b]? = w.heap[b]?) {d:D} {v:Value} (hr:Ro w o d v):Ro w' o' d v:=by
 induction hr with
 | v x hx=>exact .v x hx
 | nil sz ad c=>exact .nil sz ad c
 | sl sz ds b off n c us hn hm hnc ho hrow hcell _ ih=>
  exact .sl sz ds b off n c us hn hm hnc (h b ho).1 hrow (fun t ht=>by rw [iP (h b ho).2];exact hcell t ht) ih
theorem Ow.mono {w w':World} {g g':Gh} {keep:Nat→Prop} (h:nw w g w' g' keep) {k:Nat} (hk:keep k) {p:List (Nat×Nat)} {q:Nat} {d:D} (hr:Ow w g k p q d):
  Ow w' g' k p q d:=by
 induction hr with
 | v p q x hx hc=>exact .v p q x hx (by rw [h.cv k hk];exact hc)
 | hole p q=>exact .hole p q
 | nil p q sz hc=>exact .nil p q sz (by rw [h.cv k hk];exact hc)
 | sl p q sz ds b off n c cs e hc hn hm hnc uA ho hb hfit hrow had hcell _ ih=>
  have hs:=h.own k hk b (by rw [ho];rfl)
  refine .sl p q sz ds b off n c cs e (by rw [h.cv k hk];exact hc) hn hm hnc uA (by rw [hs.1];exact ho) (by rw [hs.2];exact hb) hfit hrow
   (fun i hi=>by rw [h.ad k hk];exact had i hi) (fun i j hi hj=>by rw [iP hs.2,h.cv k hk];exact hcell i j hi hj) ih
def C.yt (f:Nat→Prop):C→Prop
 | .ref pl=>f pl.k
 | _=>True
def TV.yt (f:Nat→Prop):TV→Prop
 | .c x=>x.yt f
 | .agg cs=>∀ c ∈ cs,c.yt f
 | .ptr pl=>f pl.k
 | .CV oC=>∀ pl ∈ oC,f pl.k
 | .o3 oC=>∀ pl ∈ oC,f pl.k
 | .cut pl _ _ _=>f pl.k
 | _=>True
def TS.yt (f:Nat→Prop):TS→Prop
 | .one t=>t.yt f
 | .lp ts=>∀ t ∈ ts,t.yt f
 | .fn _ ts=>∀ t ∈ ts,t.yt f
theorem fO.mono {w w':World} {g g':Gh} {keep:Nat→Prop} (h:nw w g w' g' keep) {c:C} {u:Value} (ho:c.yt keep) (hr:fO w g c u):fO w' g' c u:=by
 cases c with
 | ro d=>exact Ro.mono h.ro hr
 | own d=>exact hr
 | ref pl=>have h1:u=g.cv pl.k pl.p pl.q∧u.oneCell'=true:=hr;show u=g'.cv pl.k pl.p pl.q∧u.oneCell'=true;rw [h.cv _ ho];exact h1
 | dead=>trivial
theorem ef.mono {w w':World} {g g':Gh} {keep:Nat→Prop} (h:nw w g w' g' keep) {t:TV} {u:Value} (ho:t.yt keep) (hr:ef w g t u):ef w' g' t u:=by
 cases hr with
 | c c u hv=>exact .c c u (hv.mono h ho)
 | agg cs us hs hv=>exact .agg cs us hs fun j c u h1 h2=>(hv j c u h1 h2).mono h (ho c (List.mem_of_getElem? h1))
 | ptr pl=>have:=ef.ptr (w:=w') (g:=g') pl;rw [h.ad _ ho] at this;exact this
 | bV ds b off us hro hcell=>
  exact .bV ds b off us (h.ro b hro).1 fun j d hj=>⟨by rw [iP (h.ro b hro).2];exact (hcell j d hj).1,(hcell j d hj).2.mono h.ro⟩
 | CV oC b off hro hcell=>
  exact .CV oC b off (h.ro b hro).1 fun j pl hj=>by rw [iP (h.ro b hro).2,hcell j pl hj,h.ad _ (ho pl (List.mem_of_getElem? hj))]
 | o3 oC b off hro hcell=>
  exact .o3 oC b off (h.ro b hro).1 fun j pl hj=>by rw [iP (h.ro b hro).2,hcell j pl hj,h.ad _ (ho pl (List.mem_of_getElem? hj))]
 | cut pl sz lo hi b off n c hc h1 h2 h3=>exact .cut pl sz lo hi b off n c (by rw [h.cv _ ho];exact hc) h1 h2 h3
 | dead u=>exact .dead u
theorem dy.mono {w w':World} {g g':Gh} {keep:Nat→Prop} (h:nw w g w' g' keep) {t:TS} {u:Value} (ho:t.yt keep) (hr:dy w g t u):dy w' g' t u:=by
 cases hr with
 | one t u hv=>exact .one t u (hv.mono h ho)
 | lp ts us hs hv=>exact .lp ts us hs fun j t u h1 h2=>(hv j t u h1 h2).mono h (ho t (List.mem_of_getElem? h1))
 | fn f ts us hs hv=>exact .fn f ts us hs fun j t u h1 h2=>(hv j t u h1 h2).mono h (ho t (List.mem_of_getElem? h1))
theorem lE.mono {w w':World} {g g':Gh} {keep:Nat→Prop} (h:nw w g w' g' keep) {k q:Nat} {c:C} (hk:keep k) (ho:c.yt keep) (hr:lE w g k q c):lE w' g' k q c:=by
 cases c with
 | ro d=>have:Ro w g.o d (g.cv k [] q):=hr;show Ro w' g'.o d (g'.cv k [] q);rw [h.cv k hk];exact this.mono h.ro
 | own d=>exact Ow.mono h hk hr
 | ref pl=>have h1:g.cv k [] q=g.cv pl.k pl.p pl.q∧(g.cv k [] q).oneCell'=true:=hr;show g'.cv k [] q=g'.cv pl.k pl.p pl.q∧(g'.cv k [] q).oneCell'=true;rw [h.cv k hk,h.cv _ ho];exact h1
 | dead=>trivial
theorem Rk.mono {w w':World} {g g':Gh} {keep:Nat→Prop} {roots:Nat→Option Rt} (h:nw w g w' g' keep)
  (hr:Rk w g roots) (hk:∀ k r,roots k=some r→keep k∧∀ c ∈ r.row,c.yt keep):Rk w' g' roots:=by
 refine ⟨fun k r LF q c hq=>(hr.cell k r LF q c hq).mono h (hk k r LF).1 ((hk k r LF).2 c (List.mem_of_getElem? hq)),fun k r LF hm=> ?_⟩
 obtain ⟨h1,⟨cs,e,h2⟩,h3⟩:=hr.mem k r LF hm
 have hkk:=(hk k r LF).1
 have hs:=h.own k hkk (g.ad k []).1 (by rw [h1];rfl)
 rw [h.ad k hkk,h.cv k hkk]
 exact ⟨by rw [hs.1];exact h1,⟨cs,e,by rw [hs.2];exact h2⟩,fun q hq=>by rw [bg,iP hs.2];exact h3 q hq⟩
structure Eg (w:World) (g:Gh) (w':World) (g':Gh) (k1:Nat) (p1:List (Nat×Nat)) (q1:Nat) (k2:Nat) (p2:List (Nat×Nat)) (q2:Nat):Prop where
 cv0:g'.cv k2 p2 q2=g.cv k1 p1 q1
 cv:∀ i r q',g'.cv k2 (p2 ++ (q2,i) :: r) q'=g.cv k1 (p1 ++ (q1,i) :: r) q'
 ad:∀ i r,g'.ad k2 (p2 ++ (q2,i) :: r)=g.ad k1 (p1 ++ (q1,i) :: r)
 o0:∀ b,g.o b= .cQ k1 p1 q1→g'.o b= .cQ k2 p2 q2∧w'.heap[b]? = w.heap[b]?
 o:∀ b i r q',g.o b= .cQ k1 (p1 ++ (q1,i) :: r) q'→g'.o b= .cQ k2 (p2 ++ (q2,i) :: r) q'∧w'.heap[b]? = w.heap[b]?
theorem Eg.sub {w w':World} {g g':Gh} {k1 k2:Nat} {p1 p2:List (Nat×Nat)} {q1 q2:Nat} (h:Eg w g w' g' k1 p1 q1 k2 p2 q2) (i j:Nat):
  Eg w g w' g' k1 (p1 ++ [(q1,i)]) j k2 (p2 ++ [(q2,i)]) j:=by
 refine ⟨h.cv i [] j,fun i' r q'=> ?_,fun i' r=> ?_,fun b hb=>h.o b i [] j hb,fun b i' r q' hb=> ?_⟩
 simpa using h.cv i ((j,i') :: r) q'
 simpa using h.ad i ((j,i') :: r)
 have:=h.o b i ((j,i') :: r) q' (by simpa using hb)
 simpa using this
theorem Ow.move {w w':World} {g g':Gh} {k1 k2:Nat} {p1:List (Nat×Nat)} {q1:Nat} {d:D} (hr:Ow w g k1 p1 q1 d):∀ {p2:List (Nat×Nat)} {q2:Nat},
  Eg w g w' g' k1 p1 q1 k2 p2 q2→Ow w' g' k2 p2 q2 d:=by
 induction hr with
 | v p q x hx hc=>intro p2 q2 h;exact .v p2 q2 x hx (by rw [h.cv0];exact hc)
 | hole p q=>intro p2 q2 _;exact .hole p2 q2
 | nil p q sz hc=>intro p2 q2 h;exact .nil p2 q2 sz (by rw [h.cv0];exact hc)
 | sl p q sz ds b off n c cs e hc hn hm hnc uA ho hb hfit hrow had hcell _ ih=>
  intro p2 q2 h
  have hs:=h.o0 b ho
  exact .sl p2 q2 sz ds b off n c cs e (by rw [h.cv0];exact hc) hn hm hnc uA hs.1 (by rw [hs.2];exact hb) hfit hrow
   (fun i hi=>by rw [h.ad i []];exact had i hi) (fun i j hi hj=>by rw [iP hs.2,h.cv i [] j];exact hcell i j hi hj)
   (fun i d hd j c' hj=>ih i d hd j c' hj (h.sub i j))
def nA (k:Nat) (p:List (Nat×Nat)):Tag:=
 match p.getLast? with
 | none=> .box k
 | some x=> .cQ k p.dropLast x.1
theorem Bk (k:Nat):nA k []= .box k:=rfl
theorem nI (k:Nat) (p:List (Nat×Nat)) (q i:Nat):nA k (p ++ [(q,i)])= .cQ k p q:=by simp [nA]
theorem mu (k:Nat) (p:List (Nat×Nat)):(nA k p).gu = some k:=by
 unfold nA
 split <;> rfl
structure uC (w:World) (g:Gh) (k:Nat) (p:List (Nat×Nat)) (row:List D):Prop where
 own:∀ (j:Nat) c,row[j]? = some c→Ow w g k p j c
 cell:∀ j,j < row.length→w.cell? (bg (g.ad k p) j)=some (g.cv k p j)
 tag:g.o (g.ad k p).1=nA k p
theorem Ow.row {w:World} {g:Gh} {k:Nat} {p:List (Nat×Nat)} {q sz:Nat} {ds:List D} (h:Ow w g k p q (.sl sz ds)) {i:Nat} {d:D} (hd:ds[i]? = some d):
  uC w g k (p ++ [(q,i)]) d.row:=by
 cases h with
 | nil _ _ _ hc=>simp at hd
 | sl _ _ _ _ b off n c cs e hc hn hm hnc uA ho hb hfit hrow had hcell hel=>
  have hi:i < n:=by
   have:=(List.getElem?_eq_some_iff.1 hd).1
   omega
  refine ⟨fun j c' hj=>hel i d hd j c' hj,fun j hj=> ?_,by rw [had i hi,nI];exact ho⟩
  rw [had i hi,bg]
  exact hcell i j hi (by rw [hrow d (List.mem_of_getElem? hd)] at hj;exact hj)
def rowAt:List D→List (Nat×Nat)→Option (List D)
 | r,[]=>some r
 | r,(q,i) :: p=>
  match r[q]? with
  | some (.sl _ ds)=>
   match ds[i]? with
   | some d=>rowAt d.row p
   | none=>none
  | _=>none
theorem uC.at {w:World} {g:Gh} {k:Nat}:∀ (r:List (Nat×Nat)) {p:List (Nat×Nat)} {row row':List D},uC w g k p row→rowAt row r=some row'→uC w g k (p ++ r) row'
 | [],p,row,row',h,hr=>by
  simp only [rowAt,Option.some.injEq] at hr
  subst hr
  simpa using h
 | (q,i) :: r,p,row,row',h,hr=>by
  simp only [rowAt] at hr
  split at hr
  rename_i sz ds hq
  split at hr
  rename_i d hd
  have:=uC.at r ((h.own q _ hq).row hd) hr
  simpa using this
  cases hr
  cases hr
def D.pn:D→List D→D
 | .st _,ds=> .st ds
 | d,[]=>d
 | _,x :: _=>x
def setAt:List D→List (Nat×Nat)→Nat→D→Option (List D)
 | row,[],q,d=>if q < row.length then some (row.set q d) else none
 | row,(q,i) :: p,q',d=>
  match row[q]? with
  | some (.sl sz ds)=>
   match ds[i]? with
   | some e=>(setAt e.row p q' d).map fun row'=>row.set q (.sl sz (ds.set i (e.pn row')))
   | none=>none
  | _=>none
theorem mT:∀ (r:List (Nat×Nat)) (row:List D) (q:Nat) (d:D) (row':List D),setAt row r q d=some row'→row'.length=row.length
 | [],row,q,d,row',h=>by
  simp only [setAt] at h
  split at h
  simp only [Option.some.injEq] at h;subst h;simp
  cases h
 | (q,i) :: r,row,q',d,row',h=>by
  simp only [setAt] at h
  split at h
  split at h
  simp only [Option.map_eq_some_iff] at h
  obtain ⟨x,_,rfl⟩:=h
  simp
  cases h
  cases h
theorem D.Ib (e:D) (row:List D) (h:row.length=e.row.length) (h1:∀ x,row=[x]→(∀ ds,e ≠ .st ds)→x.row=[x]):(e.pn row).row=row:=by
 cases e with
 | st ds=>rfl
 | v x=>
  simp only [D.row,List.length_cons,List.length_nil] at h
  obtain ⟨y,rfl⟩:=List.length_eq_one_iff.1 h
  exact h1 y rfl (by simp)
 | sl sz ds=>
  simp only [D.row,List.length_cons,List.length_nil] at h
  obtain ⟨y,rfl⟩:=List.length_eq_one_iff.1 h
  exact h1 y rfl (by simp)
 | hole=>
  simp only [D.row,List.length_cons,List.length_nil] at h
  obtain ⟨y,rfl⟩:=List.length_eq_one_iff.1 h
  exact h1 y rfl (by simp)
structure Wr (w w':World) (b0 t0:Nat) (u:Value):Prop where
 other:∀ b,b ≠ b0→w'.heap[b]? = w.heap[b]?
 here:∀ cs e,w.heap[b0]? = some (.cells cs e (0,0))→∃ cs':Array Value,cs'.size=cs.size∧w'.heap[b0]? = some (.cells cs' e (0,0))
 cell:∀ t,t ≠ t0→w'.cell? ⟨b0,t,none⟩=w.cell? ⟨b0,t,none⟩
 new:w'.cell? ⟨b0,t0,none⟩=some u
theorem Wr.cell' {w w':World} {b0 t0:Nat} {u:Value} (h:Wr w w' b0 t0 u) (b t:Nat) (hne:b ≠ b0 ∨ t ≠ t0):w'.cell? ⟨b,t,none⟩=w.cell? ⟨b,t,none⟩:=by
 by_cases hb:b=b0
 subst hb
 exact h.cell t (hne.resolve_left (fun h=>h rfl))
 exact iP (h.other b hb) t
def Un (p:List (Nat×Nat)) (q:Nat) (p':List (Nat×Nat)) (q':Nat):Prop:=(p'=p∧q'=q) ∨ ∃ i r,p'=p ++ (q,i) :: r
theorem Un.refl (p:List (Nat×Nat)) (q:Nat):Un p q p q:= .inl ⟨rfl,rfl⟩
theorem Un.both {p p' P:List (Nat×Nat)} {q q' Q:Nat} (h:Un p q P Q) (h':Un p' q' P Q):Un p q p' q' ∨ Un p' q' p q:=by
 rcases h with ⟨rfl,rfl⟩|⟨i,r,rfl⟩
 exact .inr h'
 rcases h' with ⟨h1,rfl⟩|⟨i',r',h1⟩
 exact .inl (.inr ⟨i,r,h1.symm⟩)
 rcases List.append_eq_append_iff.1 h1 with ⟨a,ha,hb⟩|⟨a,ha,hb⟩
 cases a with
 | nil=>
  simp only [List.nil_append,List.cons.injEq,Prod.mk.injEq,List.append_nil] at ha hb
  exact .inl (.inl ⟨ha,hb.1.1.symm⟩)
 | cons x a=>
  simp only [List.cons_append,List.cons.injEq] at hb
  exact .inl (.inr ⟨i,a,by rw [ha, ← hb.1]⟩)
 cases a with
 | nil=>
  simp only [List.nil_append,List.cons.injEq,Prod.mk.injEq,List.append_nil] at ha hb
  exact .inl (.inl ⟨ha.symm,hb.1.1⟩)
 | cons x a=>
  simp only [List.cons_append,List.cons.injEq] at hb
  exact .inr (.inr ⟨i',a,by rw [ha, ← hb.1]⟩)
def Tag.within (k:Nat) (p:List (Nat×Nat)) (q:Nat) (t:Tag):Prop:=∃ p' q',t= .cQ k p' q'∧Un p q p' q'
theorem zH {k:Nat} {p p':List (Nat×Nat)} {q:Nat} (h:(nA k p).within k p' q):∃ i r,p=p' ++ (q,i) :: r:=by
 obtain ⟨p1,q1,h1,h2⟩:=h
 rcases List.eq_nil_or_concat p with rfl|⟨l,x,rfl⟩
 simp [Bk] at h1
 obtain ⟨a,b⟩:=x
 rw [List.concat_eq_append] at h1 ⊢
 rw [nI] at h1
 simp only [Tag.cQ.injEq,true_and] at h1
 obtain ⟨rfl,rfl⟩:=h1
 rcases h2 with ⟨rfl,rfl⟩|⟨i,r,rfl⟩
 exact ⟨b,[],rfl⟩
 exact ⟨i,r ++ [(a,b)],by simp⟩
theorem zI (k:Nat) (p:List (Nat×Nat)) (q i:Nat) (r:List (Nat×Nat)):(nA k (p ++ (q,i) :: r)).within k p q:=by
 rcases List.eq_nil_or_concat r with rfl|⟨l,x,rfl⟩
 rw [nI]
 exact ⟨_,_,rfl,Un.refl _ _⟩
 obtain ⟨x1,x2⟩:=x
 have:p ++ (q,i) :: l.concat (x1,x2)=(p ++ (q,i) :: l) ++ [(x1,x2)]:=by simp
 rw [this,nI]
 exact ⟨_,_,rfl, .inr ⟨i,l,rfl⟩⟩
structure u6 (w:World) (g:Gh) (w':World) (g':Gh) (k:Nat) (p:List (Nat×Nat)) (q b0 t0:Nat) (u:Value) (src:Tag→Prop):Prop where
 wr:Wr w w' b0 t0 u
 at_:bg (g.ad k p) q=⟨b0,t0,none⟩
 tag:g.o b0=nA k p
 cv:∀ k' p' q',¬ (k'=k∧Un p q p' q')→g'.cv k' p' q'=g.cv k' p' q'
 ad:∀ k' p',¬ (k'=k∧∃ i r,p'=p ++ (q,i) :: r)→g'.ad k' p'=g.ad k' p'
 o:∀ b,¬ src (g.o b)→g'.o b=g.o b
 so:∀ b,src (g.o b)→(g'.o b).gu ≠ none
 sb:∀ b,src (g.o b)→∀ j,g'.o b ≠ .box j
 src:∀ t,src t→∃ k',t.gu = some k'∧k' ≠ k
 new:g'.cv k p q=u
section
variable {w w':World} {g g':Gh} {k:Nat} {p:List (Nat×Nat)} {q b0 t0:Nat} {u:Value} {src:Tag→Prop}
theorem u6.ro (h:u6 w g w' g' k p q b0 t0 u src):∀ b,g.o b= .ro→g'.o b= .ro∧w'.heap[b]? = w.heap[b]? :=by
 intro b hb
 have hns:¬ src (g.o b):=fun hs=>by
  obtain ⟨k',h1,_⟩:=h.src _ hs
  rw [hb] at h1
  cases h1
 refine ⟨by rw [h.o b hns];exact hb,h.wr.other b (fun e=> ?_)⟩
 subst e
 have:=h.tag
 rw [hb] at this
 have h2:=mu k p
 rw [← this] at h2;cases h2
theorem u6.other (h:u6 w g w' g' k p q b0 t0 u src) {k1:Nat} {p1:List (Nat×Nat)} {q1:Nat} {d:D} (hne:k1=k→¬ Un p1 q1 p q∧¬ Un p q p1 q1∧∀ i r,p ≠ p1 ++ (q1,i) :: r)
  (hsrc:∀ t,src t→¬ t.within k1 p1 q1) (hr:Ow w g k1 p1 q1 d):Ow w' g' k1 p1 q1 d:=by
 have fL:∀ p' q',Un p1 q1 p' q'→g'.cv k1 p' q'=g.cv k1 p' q':=fun p' q' hu=>h.cv k1 p' q' (fun ⟨e,SA⟩=>by
  obtain ⟨n1,n2,_⟩:=hne e
  rcases Un.both hu SA with hx|hx
  exact n1 hx
  exact n2 hx)
 have hb:∀ b p' q',g.o b= .cQ k1 p' q'→Un p1 q1 p' q'→g'.o b=g.o b∧w'.heap[b]? = w.heap[b]? :=fun b p' q' hb hu=>by
  refine ⟨h.o b (fun hs=>hsrc _ hs ⟨p',q',hb,hu⟩),h.wr.other b (fun e=> ?_)⟩
  subst e
  have ht:=h.tag
  have gk:=mu k p
  rw [← ht,hb] at gk
  have hk:k1=k:=by simpa [Tag.gu] using gk
  have hw:(nA k p).within k p1 q1:=⟨p',q',by rw [← ht,hb,hk],hu⟩
  obtain ⟨i,r,hp⟩:=zH hw
  exact (hne hk).2.2 i r hp
 refine Ow.move hr ⟨fL _ _ (Un.refl _ _),fun i r q'=>fL _ _ (.inr ⟨i,r,rfl⟩),fun i r=>h.ad _ _ (fun ⟨e,i',r',hx⟩=> ?_),fun b hb'=> ?_,fun b i r q' hb'=> ?_⟩
 obtain ⟨n1,n2,n3⟩:=hne e
 rcases Un.both (p:=p1) (q:=q1) (p':=p) (q':=q) (P:=p1 ++ (q1,i) :: r) (Q:=0) (.inr ⟨i,r,rfl⟩) (.inr ⟨i',r',hx⟩) with hy|hy
 exact n1 hy
 exact n2 hy
 have:=hb b p1 q1 hb' (Un.refl _ _)
 rw [hb'] at this
 exact this
 have:=hb b _ q' hb' (.inr ⟨i,r,rfl⟩)
 rw [hb'] at this
 exact this
theorem u6.own {r:List (Nat×Nat)} {p0:List (Nat×Nat)} {q1 i1 sz:Nat} {ds:List D} {e:D} {er:List D} {d:D} (h:u6 w g w' g' k (p0 ++ (q1,i1) :: r) q b0 t0 u src)
  (N0:Ow w g k p0 q1 (.sl sz ds)) (he:ds[i1]? = some e) (SB:d.row=[d]) (pZ:setAt e.row r q d=some er) (hin:uC w' g' k (p0 ++ [(q1,i1)]) er):
  Ow w' g' k p0 q1 (.sl sz (ds.set i1 (e.pn er))):=by
 have h':u6 w g w' g' k ((p0 ++ [(q1,i1)]) ++ r) q b0 t0 u src:=by simpa using h
 have LL:=mT r e.row q d er pZ
 have hne:∀ (p':List (Nat×Nat)),p'.length ≤ p0.length→∀ (i:Nat) (x:List (Nat×Nat)),p' ≠ (p0 ++ (q1,i1) :: r) ++ (q,i) :: x:=fun p' G7 i x hx=>by
  have:=congrArg List.length hx
  simp only [List.length_append,List.length_cons] at this
  omega
 have had:∀ (p':List (Nat×Nat)),p'.length ≤ p0.length→g'.ad k p'=g.ad k p':=fun p' G7=>h.ad k p' (fun ⟨_,i,x,hx⟩=>hne p' G7 i x hx)
 have fL:∀ (p':List (Nat×Nat)) (j:Nat),p'.length ≤ p0.length→g'.cv k p' j=g.cv k p' j:=fun p' j G7=>h.cv k p' j (fun ⟨_,hu⟩=>by
  rcases hu with ⟨hx,_⟩|⟨i,x,hx⟩
  have:=congrArg List.length hx
  simp only [List.length_append,List.length_cons] at this
  omega
  exact hne p' G7 i x hx)
 have SC:∀ (p':List (Nat×Nat)) (j:Nat) t,src t→¬ t.within k p' j:=fun p' j t ht hw=>by
  obtain ⟨k',h1,h2⟩:=h.src t ht
  obtain ⟨p'',q'',rfl,_⟩:=hw
  exact h2 (by simpa [Tag.gu] using h1.symm)
 cases N0 with
 | nil _ _ _ hc=>simp at he
 | sl _ _ _ _ b off n c cs ty hc hn hm hnc uA ho hb hfit hro LM hcell hel=>
  have hi1:i1 < n:=by
   have:=(List.getElem?_eq_some_iff.1 he).1
   omega
  have SD:(e.pn er).row=er:=by
   refine D.Ib e er LL (fun x hx hst=> ?_)
   subst hx
   cases r with
   | nil=>
    simp only [setAt] at pZ
    split at pZ
    simp only [Option.some.injEq] at pZ
    cases e with
    | st ds=>exact absurd rfl (hst ds)
    | _=>
     simp only [D.row,List.length_cons,List.length_nil] at *
     have Sq:q=0:=by omega
     subst Sq
     simp only [List.set_cons_zero,List.cons.injEq,and_true] at pZ
     subst pZ
     exact SB
    cases pZ
   | cons y r=>
    obtain ⟨y1,y2⟩:=y
    simp only [setAt] at pZ
    split at pZ
    rename_i sz' ds' hy
    split at pZ
    simp only [Option.map_eq_some_iff] at pZ
    obtain ⟨z,_,hz⟩:=pZ
    cases e with
    | st ds=>exact absurd rfl (hst ds)
    | _=>
     simp only [D.row] at *
     cases y1 with
     | zero=>
      simp only [List.set_cons_zero,List.cons.injEq,and_true] at hz
      subst hz
      rfl
     | succ y1=>simp at hy
    cases pZ
    cases pZ
  have hbe:b=b0 ∨ w'.heap[b]? = w.heap[b]? :=by
   by_cases e2:b=b0
   exact .inl e2
   exact .inr (h.wr.other b e2)
  have hob:g'.o b= .cQ k p0 q1:=by
   rw [h.o b (fun hs=> ?_)]
   exact ho
   obtain ⟨k',h1,h2⟩:=h.src _ hs
   rw [ho] at h1
   exact h2 (by simpa [Tag.gu] using h1.symm)
  have Bl:∃ cs':Array Value,cs'.size=cs.size∧w'.heap[b]? = some (.cells cs' ty (0,0)):=by
   rcases hbe with rfl|hx
   exact h.wr.here cs ty hb
   exact ⟨cs,rfl,by rw [hx];exact hb⟩
  obtain ⟨cs',hcs',hb'⟩:=Bl
  have hadi:∀ i,i < n→g'.ad k (p0 ++ [(q1,i)])=(b,off + i * sz):=fun i hi=>by
   rw [h.ad k _ (fun ⟨_,i',x,hx⟩=>by
    have:=congrArg List.length hx
    simp only [List.length_append,List.length_cons,List.length_nil] at this
    omega)]
   exact LM i hi
  refine .sl p0 q1 sz _ b off n c cs' ty (by rw [fL p0 q1 (Nat.le_refl _)];exact hc) (by simpa using hn) hm hnc uA hob hb' (by rw [hcs'];exact hfit)
   (fun d' pH=> ?_) hadi (fun i j hi hj=> ?_) (fun i d' pH j c' hj=> ?_)
  rcases List.mem_or_eq_of_mem_set pH with hx|rfl
  exact hro d' hx
  rw [SD,LL]
  exact hro e (List.mem_of_getElem? he)
  by_cases ei:i=i1
  subst ei
  have hlen:er.length=sz:=by rw [LL];exact hro e (List.mem_of_getElem? he)
  have:=hin.cell j (by omega)
  rw [hadi i hi] at this
  exact this
  have SE:g'.cv k (p0 ++ [(q1,i)]) j=g.cv k (p0 ++ [(q1,i)]) j:=h.cv k _ j (fun ⟨_,hu⟩=>by
   rcases hu with ⟨hx,_⟩|⟨i',x,hx⟩
   have:=List.append_cancel_left hx
   simp at this
   exact ei this.1
   rw [List.append_assoc] at hx
   have:=List.append_cancel_left hx
   simp at this)
  rw [SE, ← hcell i j hi hj]
  by_cases e2:b=b0
  subst e2
  refine h.wr.cell' _ _ (.inr fun ht=> ?_)
  have ha:=h.at_
  have YU:=h'.at_
  cases r with
  | nil=>
   simp only [List.append_nil] at YU
   rw [LM i1 hi1] at YU
   simp only [bg,Addr.mk.injEq,and_true,true_and] at YU
   have hql:q < sz:=by
    simp only [setAt] at pZ
    split at pZ
    rename_i DE
    rw [hro e (List.mem_of_getElem? he)] at DE
    exact DE
    cases pZ
   have h1:i * sz + j=i1 * sz + q:=by omega
   have h2:i=i1:=by
    rcases Nat.lt_trichotomy i i1 with hlt|heq|hgt
    have:(i + 1) * sz ≤ i1 * sz:=Nat.mul_le_mul_right _ hlt
    rw [Nat.add_mul] at this
    omega
    exact heq
    have:(i1 + 1) * sz ≤ i * sz:=Nat.mul_le_mul_right _ hgt
    rw [Nat.add_mul] at this
    omega
   exact ei h2
  | cons y r=>
   obtain ⟨y1,y2⟩:=y
   have ht1:=h.tag
   rw [ho] at ht1
   have hw:(nA k (p0 ++ (q1,i1) :: (y1,y2) :: r)).within k (p0 ++ [(q1,i1)]) y1:=by
    have:=zI k (p0 ++ [(q1,i1)]) y1 y2 r
    simpa using this
   rw [← ht1] at hw
   obtain ⟨p',q',hx,hu⟩:=hw
   simp only [Tag.cQ.injEq,true_and] at hx
   obtain ⟨rfl,rfl⟩:=hx
   rcases hu with ⟨hx,_⟩|⟨i',x,hx⟩
   have:=congrArg List.length hx
   simp only [List.length_append,List.length_cons,List.length_nil] at this
   omega
   have:=congrArg List.length hx
   simp only [List.length_append,List.length_cons,List.length_nil] at this
   omega
  exact iP (h.wr.other b e2) _
  rw [List.getElem?_set] at pH
  by_cases ei:i1=i
  subst ei
  rw [if_pos rfl] at pH
  split at pH
  simp only [Option.some.injEq] at pH
  subst pH
  rw [SD] at hj
  exact hin.own j c' hj
  cases pH
  rw [if_neg ei] at pH
  refine h.other (fun _=>⟨fun hu=> ?_,fun hu=> ?_,fun i' x hx=> ?_⟩) (SC _ _) (hel i d' pH j c' hj)
  rcases hu with ⟨hx,_⟩|⟨i',x,hx⟩
  have:=List.append_cancel_left hx
  simp at this
  exact ei this.1
  rw [List.append_assoc] at hx
  have:=List.append_cancel_left hx
  simp at this
  exact ei this.1
  rcases hu with ⟨hx,_⟩|⟨i',x,hx⟩
  have:=List.append_cancel_left hx
  simp at this
  exact ei this.1.symm
  rw [List.append_assoc] at hx
  have:=List.append_cancel_left hx
  simp at this
  rw [List.append_assoc] at hx
  have:=List.append_cancel_left hx
  simp at this
  exact ei this.1
theorem u6.row:∀ (r:List (Nat×Nat)) {p0:List (Nat×Nat)} {row row':List D} {d:D} (h:u6 w g w' g' k (p0 ++ r) q b0 t0 u src),uC w g k p0 row→
  Ow w' g' k (p0 ++ r) q d→d.row=[d]→setAt row r q d=some row'→uC w' g' k p0 row'
 | [],p0,row,row',d,h,hrow,hd,_,hs=>by
  rw [List.append_nil] at h hd
  simp only [setAt] at hs
  split at hs
  rename_i hq
  simp only [Option.some.injEq] at hs
  subst hs
  have had:g'.ad k p0=g.ad k p0:=h.ad k p0 (fun ⟨_,i,r,hx⟩=>by
   have:=congrArg List.length hx
   simp only [List.length_append,List.length_cons,List.length_nil] at this
   omega)
  have SF:g'.o (g.ad k p0).1=g.o (g.ad k p0).1:=h.o _ (fun hs=>by
   obtain ⟨k',h1,h2⟩:=h.src _ hs
   rw [hrow.tag,mu] at h1
   exact h2 (by simpa using h1.symm))
  refine ⟨fun j c hj=> ?_,fun j hj=> ?_,by rw [had,SF];exact hrow.tag⟩
  rw [List.getElem?_set] at hj
  by_cases e:q=j
  subst e
  rw [if_pos rfl] at hj
  rw [if_pos hq,Option.some.injEq] at hj
  subst hj
  exact hd
  rw [if_neg e] at hj
  refine h.other (fun _=>⟨fun hu=> ?_,fun hu=> ?_,fun i r hx=> ?_⟩) (fun t ht hw=> ?_) (hrow.own j c hj)
  rcases hu with ⟨_,DE⟩|⟨i,r,hx⟩
  first|exact e DE|exact e DE.symm
  have:=congrArg List.length hx
  simp only [List.length_append,List.length_cons,List.length_nil] at this
  omega
  rcases hu with ⟨_,DE⟩|⟨i,r,hx⟩
  first|exact e DE|exact e DE.symm
  have:=congrArg List.length hx
  simp only [List.length_append,List.length_cons,List.length_nil] at this
  omega
  have:=congrArg List.length hx
  simp only [List.length_append,List.length_cons,List.length_nil] at this
  omega
  obtain ⟨k',h1,h2⟩:=h.src t ht
  obtain ⟨p',q',rfl,_⟩:=hw
  exact h2 (by simpa [Tag.gu] using h1.symm)
  rw [List.length_set] at hj
  rw [had]
  by_cases e:j=q
  subst e
  rw [h.at_,h.new]
  exact h.wr.new
  rw [h.cv k p0 j (fun ⟨_,hu⟩=>by
   rcases hu with ⟨_,DE⟩|⟨i,r,hx⟩
   first|exact e DE|exact e DE.symm
   have:=congrArg List.length hx
   simp only [List.length_append,List.length_cons,List.length_nil] at this
   omega), ← hrow.cell j hj]
  have ha:=h.at_
  simp only [bg,Addr.mk.injEq,and_true] at ha ⊢
  exact h.wr.cell' _ _ (.inr (by omega))
  cases hs
 | (q1,i1) :: r,p0,row,row',d,h,hrow,hd,SB,hs=>by
  simp only [setAt] at hs
  split at hs
  rename_i sz ds hq
  split at hs
  rename_i e he
  simp only [Option.map_eq_some_iff] at hs
  obtain ⟨er,pZ,rfl⟩:=hs
  have h':u6 w g w' g' k ((p0 ++ [(q1,i1)]) ++ r) q b0 t0 u src:=by simpa using h
  have pH:Ow w' g' k ((p0 ++ [(q1,i1)]) ++ r) q d:=by simpa using hd
  have hin:=u6.row r h' ((hrow.own q1 _ hq).row he) pH SB pZ
  have LL:=mT r e.row q d er pZ
  have hne:∀ (p':List (Nat×Nat)),p'.length ≤ p0.length→∀ (i:Nat) (x:List (Nat×Nat)),p' ≠ (p0 ++ (q1,i1) :: r) ++ (q,i) :: x:=fun p' G7 i x hx=>by
   have:=congrArg List.length hx
   simp only [List.length_append,List.length_cons,List.length_nil] at this
   omega
  have had:∀ (p':List (Nat×Nat)),p'.length ≤ p0.length→g'.ad k p'=g.ad k p':=fun p' G7=>h.ad k p' (fun ⟨_,i,x,hx⟩=>hne p' G7 i x hx)
  have fL:∀ (p':List (Nat×Nat)) (j:Nat),p'.length ≤ p0.length→g'.cv k p' j=g.cv k p' j:=fun p' j G7=>h.cv k p' j (fun ⟨_,hu⟩=>by
   rcases hu with ⟨hx,_⟩|⟨i,x,hx⟩
   have:=congrArg List.length hx
   simp only [List.length_append,List.length_cons,List.length_nil] at this
   omega
   exact hne p' G7 i x hx)
  have SC:∀ (p':List (Nat×Nat)) (j:Nat) t,src t→¬ t.within k p' j:=fun p' j t ht hw=>by
   obtain ⟨k',h1,h2⟩:=h.src t ht
   obtain ⟨p'',q'',rfl,_⟩:=hw
   exact h2 (by simpa [Tag.gu] using h1.symm)
  have SF:∀ b,g.o b=nA k p0→g'.o b=g.o b:=fun b hb=>h.o b (fun hs=>by
   obtain ⟨k',h1,h2⟩:=h.src _ hs
   rw [hb,mu] at h1
   exact h2 (by simpa using h1.symm))
  refine ⟨fun j c hj=> ?_,fun j hj=> ?_,by rw [had p0 (Nat.le_refl _),SF _ hrow.tag];exact hrow.tag⟩
  rw [List.getElem?_set] at hj
  by_cases e1:q1=j
  subst e1
  rw [if_pos rfl] at hj
  split at hj
  simp only [Option.some.injEq] at hj
  subst hj
  exact u6.own h (hrow.own q1 _ hq) he SB pZ hin
  cases hj
  rw [if_neg e1] at hj
  refine h.other (fun _=>⟨fun hu=> ?_,fun hu=> ?_,fun i' x hx=> ?_⟩) (SC _ _) (hrow.own j c hj)
  rcases hu with ⟨hx,_⟩|⟨i',x,hx⟩
  have:=congrArg List.length hx
  simp only [List.length_append,List.length_cons,List.length_nil] at this
  omega
  have:=List.append_cancel_left hx
  simp at this
  exact e1 this.1.1
  rcases hu with ⟨hx,_⟩|⟨i',x,hx⟩
  have:=congrArg List.length hx
  simp only [List.length_append,List.length_cons,List.length_nil] at this
  omega
  have:=congrArg List.length hx
  simp only [List.length_append,List.length_cons,List.length_nil] at this
  omega
  have:=List.append_cancel_left hx
  simp at this
  exact e1 this.1.1
  rw [List.length_set] at hj
  rw [had p0 (Nat.le_refl _),fL p0 j (Nat.le_refl _), ← hrow.cell j hj]
  refine h.wr.cell' _ _ (.inl fun hb=> ?_)
  have ht1:=h.tag
  rw [← hb,hrow.tag] at ht1
  have hw:=zI k p0 q1 i1 r
  rw [← ht1] at hw
  obtain ⟨i,x,hx⟩:=zH hw
  have:=congrArg List.length hx
  simp only [List.length_append,List.length_cons] at this
  omega
  cases hs
  cases hs
end
def C.kill (pr:Pl→Bool):C→C
 | .ref pl=>if pr pl then .dead else .ref pl
 | .ro d=> .ro d
 | .own d=> .own d
 | .dead=> .dead
def TV.kill (pr pp:Pl→Bool):TV→TV
 | .c x=> .c (x.kill pr)
 | .agg cs=> .agg (cs.map (C.kill pr))
 | .ptr pl=>if pp pl then .dead else .ptr pl
 | .CV oC=>if oC.any pp then .dead else .CV oC
 | .o3 oC=>if oC.any pp then .dead else .o3 oC
 | .cut pl sz lo hi=>if pr pl then .dead else .cut pl sz lo hi
 | .bV ds=> .bV ds
 | .dead=> .dead
def TS.kill (pr pp:Pl→Bool):TS→TS
 | .one t=> .one (t.kill pr pp)
 | .lp ts=> .lp (ts.map (TV.kill pr pp))
 | .fn f ts=> .fn f (ts.map (TV.kill pr pp))
def Rt.kill (pr:Pl→Bool) (r:Rt):Rt:={ r with row:=r.row.map (C.kill pr) }
def St.kill (pr pp:Pl→Bool) (st:St):St:=⟨st.tmps.map (TS.kill pr pp),st.roots.map fun x=>(x.1,x.2.kill pr)⟩
def St.cq (st:St) (k:Nat) (r:Rt):St:={ st with roots:=(k,r) :: st.roots.filter fun x=>x.1 != k }
theorem LN (f:Rt→Rt) (k:Nat):∀ l:List (Nat×Rt),((l.map fun x=>(x.1,f x.2)).find? fun x=>x.1 == k).map (·.2)=((l.find? fun x=>x.1 == k).map (·.2)).map f
 | []=>rfl
 | x :: l=>by
  simp only [List.map_cons,List.find?_cons]
  split
  rfl
  exact LN f k l
theorem St.jl (pr pp:Pl→Bool) (st:St) (k:Nat):(st.kill pr pp).root k=(st.root k).map (Rt.kill pr):=LN _ k _
theorem ve (k k':Nat) (h:k' ≠ k):∀ l:List (Nat×Rt),((l.filter fun x=>x.1 != k).find? fun x=>x.1 == k')=l.find? fun x=>x.1 == k'
 | []=>rfl
 | x :: l=>by
  simp only [List.filter_cons,List.find?_cons]
  by_cases e:x.1=k'
  have h1:(x.1 != k)=true:=by simp [e,h]
  have h2:(x.1 == k')=true:=by simp [e]
  simp [h1,h2]
  have h2:(x.1 == k')=false:=by simp [e]
  rw [h2]
  split
  simp only [List.find?_cons,h2]
  exact ve k k' h l
  exact ve k k' h l
theorem St.c7 (st:St) (k:Nat) (r:Rt) (k':Nat):(st.cq k r).root k'=if k'=k then some r else st.root k':=by
 unfold St.cq St.root
 by_cases h:k'=k
 subst h
 simp
 rw [if_neg h]
 have:((k,r).1 == k')=false:=by simp;exact fun e=>h e.symm
 simp only [List.find?_cons,this]
 rw [ve k k' h]
structure oD (w:World) (g:Gh) (w':World) (g':Gh) (pr pp:Pl→Bool):Prop where
 ro:∀ b,g.o b= .ro→g'.o b= .ro∧w'.heap[b]? = w.heap[b]?
 cv:∀ pl,pr pl=false→g'.cv pl.k pl.p pl.q=g.cv pl.k pl.p pl.q
 ad:∀ pl,pp pl=false→g'.ad pl.k pl.p=g.ad pl.k pl.p
section
variable {w w':World} {g g':Gh} {pr pp:Pl→Bool}
theorem fO.kill (h:oD w g w' g' pr pp) {c:C} {u:Value} (hr:fO w g c u):fO w' g' (c.kill pr) u:=by
 cases c with
 | ro d=>exact Ro.mono h.ro hr
 | own d=>exact hr
 | ref pl=>
  have h1:u=g.cv pl.k pl.p pl.q∧u.oneCell'=true:=hr
  simp only [C.kill]
  cases hp:pr pl with
  | true=>trivial
  | false=>show u=g'.cv pl.k pl.p pl.q∧u.oneCell'=true;rw [h.cv pl hp];exact h1
 | dead=>trivial
theorem ef.kill (h:oD w g w' g' pr pp) {t:TV} {u:Value} (hr:ef w g t u):ef w' g' (t.kill pr pp) u:=by
 cases hr with
 | c c u hv=>exact .c _ u (hv.kill h)
 | agg cs us hs hv=>
  refine .agg _ us (by simpa using hs) fun j c u h1 h2=> ?_
  rw [List.getElem?_map,Option.map_eq_some_iff] at h1
  obtain ⟨c',h1,rfl⟩:=h1
  exact (hv j c' u h1 h2).kill h
 | ptr pl=>
  simp only [TV.kill]
  cases hp:pp pl with
  | true=>exact .dead _
  | false=>have:=ef.ptr (w:=w') (g:=g') pl;rw [h.ad pl hp] at this;exact this
 | bV ds b off us hro hcell=>
  exact .bV ds b off us (h.ro b hro).1 fun j d hj=>⟨by rw [iP (h.ro b hro).2];exact (hcell j d hj).1,(hcell j d hj).2.mono h.ro⟩
 | CV oC b off hro hcell=>
  simp only [TV.kill]
  cases hp:oC.any pp with
  | true=>exact .dead _
  | false=>
   rw [List.any_eq_false] at hp
   exact .CV oC b off (h.ro b hro).1 fun j pl hj=>by rw [iP (h.ro b hro).2,hcell j pl hj,h.ad pl (by simpa using hp pl (List.mem_of_getElem? hj))]
 | o3 oC b off hro hcell=>
  simp only [TV.kill]
  cases hp:oC.any pp with
  | true=>exact .dead _
  | false=>
   rw [List.any_eq_false] at hp
   exact .o3 oC b off (h.ro b hro).1 fun j pl hj=>by rw [iP (h.ro b hro).2,hcell j pl hj,h.ad pl (by simpa using hp pl (List.mem_of_getElem? hj))]
 | cut pl sz lo hi b off n c hc h1 h2 h3=>
  simp only [TV.kill]
  cases hp:pr pl with
  | true=>exact .dead _
  | false=>exact .cut pl sz lo hi b off n c (by rw [h.cv pl hp];exact hc) h1 h2 h3
 | dead u=>exact .dead u
theorem dy.kill (h:oD w g w' g' pr pp) {t:TS} {u:Value} (hr:dy w g t u):dy w' g' (t.kill pr pp) u:=by
 cases hr with
 | one t u hv=>exact .one _ u (hv.kill h)
 | lp ts us hs hv=>
  refine .lp _ us (by simpa using hs) fun j t u h1 h2=> ?_
  rw [List.getElem?_map,Option.map_eq_some_iff] at h1
  obtain ⟨t',h1,rfl⟩:=h1
  exact (hv j t' u h1 h2).kill h
 | fn f ts us hs hv=>
  refine .fn f _ us (by simpa using hs) fun j t u h1 h2=> ?_
  rw [List.getElem?_map,Option.map_eq_some_iff] at h1
  obtain ⟨t',h1,rfl⟩:=h1
  exact (hv j t' u h1 h2).kill h
theorem Rel.change {w0:World} {g0:Gh} {st bD:St} {a:Act} (h:Rel w0 g0 st a w g) (ha:oD w g w' g' pr pp) (ht:bD.tmps=st.tmps.map (TS.kill pr pp))
  (hr:Rk w' g' bD.root) (hk:lF w0 g0 w' g'):Rel w0 g0 bD a w' g':=by
 refine ⟨fun i tv hi=> ?_,by rw [ht,List.length_map];exact h.sz,h.df,hr,hk⟩
 rw [ht,List.getElem?_map,Option.map_eq_some_iff] at hi
 obtain ⟨t,h1,rfl⟩:=hi
 exact (h.tm i t h1).kill ha
def St.put (st:St) (dst:Option Tmp) (t:TS):St:=
 match dst with
 | some d=>{ st with tmps:=st.tmps.set d t }
 | none=>st
theorem Rel.put {w0:World} {g0:Gh} {st:St} {a:Act} (h:Rel w0 g0 st a w g) {t:TS} {u:Value} (hu:dy w g t u) (dst:Option Tmp):Rel w0 g0 (st.put dst t) (a.put dst u) w g:=by
 cases dst with
 | none=>exact h
 | some d=>
  refine ⟨fun i tv hi=> ?_,by simp [St.put,Act.put,h.sz],h.df,⟨h.rt.cell,h.rt.mem⟩,h.ks⟩
  simp only [St.put,List.getElem?_set] at hi
  simp only [Act.put,Array.getD_eq_getD_getElem?,Array.getElem?_setIfInBounds]
  by_cases e:d=i
  subst e
  rw [if_pos rfl] at hi
  split at hi
  rename_i hlt
  simp only [Option.some.injEq] at hi
  subst hi
  have:d < a.tmps.size:=by rw [h.sz];exact hlt
  simp [this]
  exact hu
  cases hi
  rw [if_neg e] at hi ⊢
  rw [← Array.getD_eq_getD_getElem?]
  exact h.tm i tv hi
def St.fresh (st:St) (k:Nat) (r:Rt):St:=(st.kill (fun pl=>pl.k == k) (fun pl=>pl.k == k)).cq k r
theorem lE.kill {k k' q:Nat} {c:C} (h:nw w g w' g' (· ≠ k)) (hk:k' ≠ k) (hr:lE w g k' q c):lE w' g' k' q (c.kill fun pl=>pl.k == k):=by
 cases c with
 | ro d=>exact hr.mono h hk trivial
 | own d=>exact hr.mono h hk trivial
 | ref pl=>
  simp only [C.kill]
  by_cases e:pl.k=k
  ·rw [if_pos (by simpa using e)]
   trivial
  ·rw [if_neg (by simpa using e)]
   exact hr.mono h hk e
 | dead=>trivial
theorem Rel.grow {w0:World} {g0:Gh} {st:St} {a:Act} {k:Nat} {r:Rt} (h:Rel w0 g0 st a w g) (hs:nw w g w' g' (· ≠ k)) (hk:lF w0 g0 w' g')
  (hc:∀ (q:Nat) c,r.row[q]? = some c→lE w' g' k q c)
  (hm:r.mem=true→g'.o (g'.ad k []).1= .box k∧(∃ cs e,w'.heap[(g'.ad k []).1]? = some (.cells cs e (0,0)))∧∀ q,q < r.row.length→w'.cell? (bg (g'.ad k []) q)=some (g'.cv k [] q)):
  Rel w0 g0 (st.fresh k r) a w' g':=by
 refine h.change (pr:=fun pl=>pl.k == k) (pp:=fun pl=>pl.k == k) ⟨hs.ro,fun pl hp=> ?_,fun pl hp=> ?_⟩ rfl ⟨fun k' r' hk' q c hq=> ?_,fun k' r' hk' hm'=> ?_⟩ hk
 rw [hs.cv pl.k (by simpa using hp)]
 rw [hs.ad pl.k (by simpa using hp)]
 rw [St.fresh,St.c7] at hk'
 split at hk'
 rename_i e
 simp only [Option.some.injEq] at hk'
 subst hk';subst e
 exact hc q c hq
 rename_i e
 rw [St.jl,Option.map_eq_some_iff] at hk'
 obtain ⟨r1,h1,rfl⟩:=hk'
 simp only [Rt.kill,List.getElem?_map,Option.map_eq_some_iff] at hq
 obtain ⟨c1,h2,rfl⟩:=hq
 exact (h.rt.cell k' r1 h1 q c1 h2).kill hs e
 rw [St.fresh,St.c7] at hk'
 split at hk'
 rename_i e
 simp only [Option.some.injEq] at hk'
 subst hk';subst e
 exact hm hm'
 rename_i e
 rw [St.jl,Option.map_eq_some_iff] at hk'
 obtain ⟨r1,h1,rfl⟩:=hk'
 obtain ⟨a1,⟨cs,ty,a2⟩,a3⟩:=h.rt.mem k' r1 h1 hm'
 have hs':=hs.own k' e (g.ad k' []).1 (by rw [a1];rfl)
 rw [hs.ad k' e,hs.cv k' e]
 refine ⟨by rw [hs'.1];exact a1,⟨cs,ty,by rw [hs'.2];exact a2⟩,fun q hq=> ?_⟩
 rw [bg,iP hs'.2]
 exact a3 q (by simpa [Rt.kill] using hq)
end
def shapeOf (p:List (Nat×Nat)) (q:Nat):List Nat:=p.map (·.1) ++ [q]
def dP (k:Nat) (p:List (Nat×Nat)) (q:Nat) (pl:Pl):Bool:=pl.k == k && (shapeOf p q).isPrefixOf (shapeOf pl.p pl.q)
def u7 (k:Nat) (p:List (Nat×Nat)) (q:Nat) (pl:Pl):Bool:=pl.k == k && (shapeOf p q).isPrefixOf (pl.p.map (·.1))
theorem zJ {k:Nat} {p:List (Nat×Nat)} {q:Nat} {pl:Pl} (h:dP k p q pl=false):¬ (pl.k=k∧Un p q pl.p pl.q):=by
 rintro ⟨rfl,hu⟩
 simp only [dP,BEq.rfl,Bool.true_and] at h
 have:(shapeOf p q).isPrefixOf (shapeOf pl.p pl.q)=true:=by
  rw [List.isPrefixOf_iff_prefix]
  rcases hu with ⟨h1,h2⟩|⟨i,r,h1⟩
  rw [h1,h2]
  exact List.prefix_refl _
  rw [h1]
  refine ⟨r.map (·.1) ++ [pl.q], ?_⟩
  simp [shapeOf]
 rw [this] at h
 cases h
theorem PO {k:Nat} {p:List (Nat×Nat)} {q:Nat} {pl:Pl} (h:u7 k p q pl=false):¬ (pl.k=k∧∃ i r,pl.p=p ++ (q,i) :: r):=by
 rintro ⟨rfl,i,r,h1⟩
 simp only [u7,BEq.rfl,Bool.true_and] at h
 have:(shapeOf p q).isPrefixOf (pl.p.map (·.1))=true:=by
  rw [List.isPrefixOf_iff_prefix,h1]
  refine ⟨r.map (·.1), ?_⟩
  simp [shapeOf]
 rw [this] at h
 cases h
def setRow:List C→List (Nat×Nat)→Nat→C→Option (List C)
 | row,[],q,c=>if q < row.length then some (row.set q c) else none
 | row,(q1,i) :: r,q, .own d=>
  match row[q1]? with
  | some (.own (.sl sz ds))=>
   match ds[i]? with
   | some e=>(setAt e.row r q d).map fun er=>row.set q1 (.own (.sl sz (ds.set i (e.pn er))))
   | none=>none
  | _=>none
 | _,_ :: _,_,_=>none
section
variable {w w':World} {g g':Gh} {k:Nat} {p:List (Nat×Nat)} {q b0 t0:Nat} {u:Value} {src:Tag→Prop}
theorem u6.LO (h:u6 w g w' g' k p q b0 t0 u src):oD w g w' g' (dP k p q) (u7 k p q):=
 ⟨h.ro,fun pl hp=>h.cv _ _ _ (zJ hp),fun pl hp=>h.ad _ _ (PO hp)⟩
theorem u6.keeps (h:u6 w g w' g' k p q b0 t0 u src) {w0:World} {g0:Gh} (hk:lF w0 g0 w g) (h1:w'.os=w.os) (h2:w'.tape=w.tape) (h3:w'.output=w.output) (h4:w'.heap.size=w.heap.size):
  lF w0 g0 w' g':=by
 have hsrc:∀ t,t=Tag.ro ∨ t=Tag.outer→¬ src t:=fun t ht hs=>by
  obtain ⟨k',h5,_⟩:=h.src t hs
  rcases ht with rfl|rfl <;> cases h5
 refine ⟨h1.trans hk.os,h2.trans hk.tape,h3.trans hk.output,by rw [h4];exact hk.size,fun b hb ho=> ?_,fun b hb=> ?_,fun b hb ho=> ?_, ?_, ?_⟩
 obtain ⟨h5,h6⟩:=hk.block b hb ho
 rw [← h6] at ho
 refine ⟨(h.wr.other b (fun e=> ?_)).trans h5,(h.o b (hsrc _ ho)).trans h6⟩
 subst e
 have hr:=mu k p
 rw [← h.tag] at hr
 rcases ho with ho|ho <;> rw [ho] at hr <;> cases hr
 rw [h4] at hb
 rw [h.o b (hsrc _ (.inr (hk.fresh b hb)))]
 exact hk.fresh b hb
 rw [h4] at hb
 have hns:¬ src (g.o b):=fun hs=>h.so b hs (by rw [ho];rfl)
 rw [h.o b hns] at ho
 exact hk.old b hb ho
 refine ⟨fun q'=> ?_, ?_⟩
 rw [h.cv cm [] q' (fun ⟨e,hu⟩=> ?_)]
 exact hk.uB.1 q'
 rcases hu with ⟨hp,_⟩|⟨i,r,hx⟩
 have ht:=h.tag
 rw [← e, ← hp,Bk] at ht
 exact hk.ie _ ht
 have:=congrArg List.length hx
 simp at this
 rw [h.ad dN [] (fun ⟨_,i,r,hx⟩=>by
  have:=congrArg List.length hx
  simp at this)]
 exact hk.uB.2
 intro b hb
 by_cases hs:src (g.o b)
 exact h.sb b hs _ hb
 rw [h.o b hs] at hb
 exact hk.ie b hb
theorem u6.PS (h:u6 w g w' g' k p q b0 t0 u src) {k1 q1:Nat} {c:C} (hne:k1=k→¬ Un [] q1 p q∧¬ Un p q [] q1∧∀ i r,p ≠ [] ++ (q1,i) :: r)
  (hsrc:∀ t,src t→¬ t.within k1 [] q1) (hr:lE w g k1 q1 c):lE w' g' k1 q1 (c.kill (dP k p q)):=by
 have fL:g'.cv k1 [] q1=g.cv k1 [] q1:=h.cv _ _ _ (fun ⟨e,hu⟩=>(hne e).2.1 hu)
 cases c with
 | ro d=>
  have h1:Ro w g.o d (g.cv k1 [] q1):=hr
  show Ro w' g'.o d (g'.cv k1 [] q1)
  rw [fL]
  exact h1.mono h.ro
 | own d=>exact h.other hne hsrc hr
 | ref pl=>
  have h1:g.cv k1 [] q1=g.cv pl.k pl.p pl.q∧(g.cv k1 [] q1).oneCell'=true:=hr
  simp only [C.kill]
  cases hp:dP k p q pl with
  | true=>trivial
  | false=>
   show g'.cv k1 [] q1=g'.cv pl.k pl.p pl.q∧(g'.cv k1 [] q1).oneCell'=true
   rw [fL,h.cv _ _ _ (zJ hp)]
   exact h1
 | dead=>trivial
theorem u6.memR (h:u6 w g w' g' k p q b0 t0 u src) {k1:Nat} {n:Nat} {A:Nat×Nat} (hA:g.ad k1 []=A) (h1:g.o A.1= .box k1) (h2:∃ cs e,w.heap[A.1]? = some (.cells cs e (0,0)))
  (h3:∀ j,j < n→w.cell? (bg A j)=some (g.cv k1 [] j)) (hsrc:¬ src (.box k1)) (LP:k1=k→p ≠ []→True):
  g'.ad k1 []=A∧g'.o A.1= .box k1∧(∃ cs e,w'.heap[A.1]? = some (.cells cs e (0,0)))∧∀ j,j < n→w'.cell? (bg A j)=some (g'.cv k1 [] j):=by
 have had:g'.ad k1 []=A:=by
  rw [h.ad k1 [] (fun ⟨_,i,r,hx⟩=>by
   have:=congrArg List.length hx
   simp only [List.length_append,List.length_cons,List.length_nil] at this
   omega)]
  exact hA
 refine ⟨had,by rw [h.o _ (by rw [h1];exact hsrc)];exact h1, ?_,fun j hj=> ?_⟩
 obtain ⟨cs,e,h2⟩:=h2
 by_cases eb:A.1=b0
 rw [eb] at h2
 obtain ⟨cs',_,h4⟩:=h.wr.here cs e h2
 exact ⟨cs',e,by rw [eb];exact h4⟩
 exact ⟨cs,e,by rw [h.wr.other _ eb];exact h2⟩
 by_cases ek:k1=k∧p=[]
 obtain ⟨rfl,rfl⟩:=ek
 have ha:=h.at_
 rw [hA] at ha
 by_cases ej:j=q
 subst ej
 rw [ha,h.new]
 exact h.wr.new
 rw [h.cv k1 [] j (fun ⟨_,hu⟩=>by
  rcases hu with ⟨_,hq⟩|⟨i,r,hx⟩
  exact ej hq
  cases hx), ← h3 j hj]
 simp only [bg,Addr.mk.injEq,and_true] at ha
 exact h.wr.cell' _ _ (.inr (by omega))
 rw [h.cv k1 [] j (fun ⟨e,hu⟩=>by
  rcases hu with ⟨hx,_⟩|⟨i,r,hx⟩
  exact ek ⟨e,hx.symm⟩
  have:=congrArg List.length hx
  simp only [List.length_append,List.length_cons,List.length_nil] at this
  omega), ← h3 j hj]
 refine h.wr.cell' _ _ (.inl fun e=> ?_)
 have ht:=h.tag
 rw [← e,h1] at ht
 have hk:=mu k p
 rw [← ht] at hk
 have hk':k1=k:=by simpa [Tag.gu] using hk
 subst hk'
 rcases List.eq_nil_or_concat p with rfl|⟨l,x,rfl⟩
 exact ek ⟨rfl,rfl⟩
 obtain ⟨a,b⟩:=x
 rw [List.concat_eq_append,nI] at ht
 cases ht
def Ic (w:World) (g:Gh) (k:Nat) (p:List (Nat×Nat)) (q:Nat):C→Prop
 | .own d=>Ow w g k p q d∧d.row=[d]
 | c=>p=[]∧lE w g k q c
def St.wrote (st:St) (k:Nat) (p:List (Nat×Nat)) (q:Nat) (m:Bool) (row':List C) (s:Option (Nat×Nat)):St:=
 let Sr:=(st.kill (dP k p q) (u7 k p q)).cq k ⟨m,row'⟩
 match s with
 | none=>Sr
 | some (k1,q1)=>
  match Sr.root k1 with
  | none=>Sr
  | some r1=>Sr.cq k1 ⟨r1.mem,r1.row.set q1 (.ref ⟨k,p,q⟩)⟩
theorem St.Eh (st:St) (k:Nat) (p:List (Nat×Nat)) (q:Nat) (m:Bool) (row':List C) (s:Option (Nat×Nat)):
  (st.wrote k p q m row' s).tmps=st.tmps.map (TS.kill (dP k p q) (u7 k p q)):=by
 unfold St.wrote
 cases s with
 | none=>rfl
 | some s=>
  simp only
  split <;> rfl
theorem r8 {row:List C} {p:List (Nat×Nat)} {q:Nat} {c:C} {row':List C} (h:setRow row p q c=some row'):row'.length=row.length:=by
 cases p with
 | nil=>
  simp only [setRow] at h
  split at h
  simp only [Option.some.injEq] at h;subst h;simp
  cases h
 | cons x p=>
  obtain ⟨a,b⟩:=x
  cases c with
  | own d=>
   simp only [setRow] at h
   split at h
   split at h
   simp only [Option.map_eq_some_iff] at h
   obtain ⟨er,_,rfl⟩:=h
   simp
   cases h
   cases h
  | _=>cases h
theorem u6.here (h:u6 w g w' g' k p q b0 t0 u src) {row row':List C} (hrow:∀ (j:Nat) c,row[j]? = some c→lE w g k j c) {c:C}
  (ig:setRow (row.map (C.kill (dP k p q))) p q c=some row') (hc:Ic w' g' k p q c) (hsrc:∀ t q1,src t→¬ t.within k [] q1):
  ∀ (j:Nat) c',row'[j]? = some c'→lE w' g' k j c':=by
 intro j c' hj
 have hold:∀ (j:Nat) c',(row.map (C.kill (dP k p q)))[j]? = some c'→(¬ Un [] j p q∧¬ Un p q [] j∧∀ i r,p ≠ [] ++ (j,i) :: r)→lE w' g' k j c':=fun j c' hj hne=>by
  rw [List.getElem?_map,Option.map_eq_some_iff] at hj
  obtain ⟨c1,h1,rfl⟩:=hj
  exact h.PS (fun _=>hne) (fun t ht=>hsrc t j ht) (hrow j c1 h1)
 cases p with
 | nil=>
  simp only [setRow] at ig
  split at ig
  rename_i hq
  simp only [Option.some.injEq] at ig
  subst ig
  rw [List.getElem?_set] at hj
  by_cases e:q=j
  subst e
  rw [if_pos rfl,if_pos hq,Option.some.injEq] at hj
  subst hj
  cases c with
  | own d=>exact hc.1
  | _=>exact hc.2
  rw [if_neg e] at hj
  refine hold j c' hj ⟨fun hu=> ?_,fun hu=> ?_,fun i r hx=>by cases hx⟩
  rcases hu with ⟨_,DE⟩|⟨i,r,hx⟩
  exact e DE
  cases hx
  rcases hu with ⟨_,DE⟩|⟨i,r,hx⟩
  exact e DE.symm
  cases hx
  cases ig
 | cons x p=>
  obtain ⟨q1,i1⟩:=x
  cases c with
  | own d=>
   simp only [setRow] at ig
   split at ig
   rename_i sz ds SG
   split at ig
   rename_i e he
   simp only [Option.map_eq_some_iff] at ig
   obtain ⟨er,pZ,rfl⟩:=ig
   have h1:lE w g k q1 (.own (.sl sz ds)):=by
    rw [List.getElem?_map,Option.map_eq_some_iff] at SG
    obtain ⟨c1,h1,h2⟩:=SG
    cases c1 with
    | own d1=>rw [← h2];exact hrow q1 _ h1
    | ref pl=>simp only [C.kill] at h2;split at h2 <;> cases h2
    | _=>cases h2
   have Ie:Ow w g k [] q1 (.sl sz ds):=h1
   have heff:u6 w g w' g' k (([] ++ [(q1,i1)]) ++ p) q b0 t0 u src:=by simpa using h
   have heff2:u6 w g w' g' k ([] ++ (q1,i1) :: p) q b0 t0 u src:=by simpa using h
   have hin:=u6.row p heff (Ie.row he) (by simpa using hc.1) hc.2 pZ
   rw [List.getElem?_set] at hj
   by_cases e1:q1=j
   subst e1
   rw [if_pos rfl] at hj
   split at hj
   simp only [Option.some.injEq] at hj
   subst hj
   exact u6.own heff2 Ie he hc.2 pZ hin
   cases hj
   rw [if_neg e1] at hj
   refine hold j c' hj ⟨fun hu=> ?_,fun hu=> ?_,fun i r hx=> ?_⟩
   rcases hu with ⟨hx,_⟩|⟨i,r,hx⟩
   cases hx
   simp only [List.nil_append,List.cons.injEq,Prod.mk.injEq] at hx
   exact e1 hx.1.1
   rcases hu with ⟨hx,_⟩|⟨i,r,hx⟩
   cases hx
   cases hx
   simp only [List.nil_append,List.cons.injEq,Prod.mk.injEq] at hx
   exact e1 hx.1.1
   cases ig
   cases ig
  | _=>cases ig
theorem St.lY (st:St) (k:Nat) (p:List (Nat×Nat)) (q:Nat) (m:Bool) (row':List C) (k':Nat):
  (st.wrote k p q m row' none).root k'=if k'=k then some ⟨m,row'⟩ else (st.root k').map (Rt.kill (dP k p q)):=by
 simp only [St.wrote,St.c7,St.jl]
theorem St.o4 (st:St) (k:Nat) (p:List (Nat×Nat)) (q:Nat) (m:Bool) (row':List C) (k1 q1 k':Nat) (hne:k1 ≠ k):
  (st.wrote k p q m row' (some (k1,q1))).root k'=if k'=k then some ⟨m,row'⟩ else
   if k'=k1 then (st.root k1).map (fun r=>⟨r.mem,(r.row.map (C.kill (dP k p q))).set q1 (.ref ⟨k,p,q⟩)⟩) else (st.root k').map (Rt.kill (dP k p q)):=by
 have h1:((st.kill (dP k p q) (u7 k p q)).cq k ⟨m,row'⟩).root k1=(st.root k1).map (Rt.kill (dP k p q)):=by
  rw [St.c7,if_neg hne,St.jl]
 simp only [St.wrote,h1]
 cases hr:st.root k1 with
 | none=>
  simp only [Option.map_none]
  rw [St.c7]
  by_cases e:k'=k
  simp [e]
  rw [if_neg e,if_neg e,St.jl]
  by_cases e1:k'=k1
  subst e1;simp [hr]
  simp [e1]
 | some r1=>
  simp only [Option.map_some]
  rw [St.c7,St.c7]
  by_cases e:k'=k
  have:k' ≠ k1:=fun h=>hne (h ▸ e)
  simp [e,this]
  intro h;exact absurd h.symm hne
  by_cases e1:k'=k1
  subst e1;simp [e,Rt.kill]
  simp [e,e1,St.jl]
theorem Rel.write {w0:World} {g0:Gh} {st:St} {a:Act} (hR:Rel w0 g0 st a w g) (h:u6 w g w' g' k p q b0 t0 u src) (hno:∀ t,¬ src t)
  (h1:w'.os=w.os) (h2:w'.tape=w.tape) (h3:w'.output=w.output) (h4:w'.heap.size=w.heap.size)
  {r:Rt} (hk:st.root k=some r) {c:C} {row':List C} (ig:setRow (r.row.map (C.kill (dP k p q))) p q c=some row') (hc:Ic w' g' k p q c):
  Rel w0 g0 (st.wrote k p q r.mem row' none) a w' g':=by
 refine hR.change h.LO (St.Eh ..) ⟨fun k' r' hk' j c' hj=> ?_,fun k' r' hk' hm=> ?_⟩ (h.keeps hR.ks h1 h2 h3 h4)
 rw [St.lY] at hk'
 split at hk'
 rename_i e
 simp only [Option.some.injEq] at hk'
 subst hk';subst e
 exact h.here (hR.rt.cell k' r hk) ig hc (fun t _ ht=>absurd ht (hno t)) j c' hj
 rename_i e
 rw [Option.map_eq_some_iff] at hk'
 obtain ⟨r1,h5,rfl⟩:=hk'
 simp only [Rt.kill,List.getElem?_map,Option.map_eq_some_iff] at hj
 obtain ⟨c1,h6,rfl⟩:=hj
 exact h.PS (fun e'=>absurd e' e) (fun t ht=>absurd ht (hno t)) (hR.rt.cell k' r1 h5 j c1 h6)
 rw [St.lY] at hk'
 have key:∀ r1,st.root k'=some r1→r1.mem=true→∀ n,n=r1.row.length→_:=fun r1 h5 h6 n hn=>
  h.memR (k1:=k') (n:=n) rfl (hR.rt.mem k' r1 h5 h6).1 (hR.rt.mem k' r1 h5 h6).2.1 (fun j hj=>(hR.rt.mem k' r1 h5 h6).2.2 j (by omega)) (hno _) (fun _ _=>trivial)
 split at hk'
 rename_i e
 simp only [Option.some.injEq] at hk'
 subst hk';subst e
 have:=key r hk hm _ rfl
 rw [this.1]
 exact ⟨this.2.1,this.2.2.1,fun j hj=>this.2.2.2 j (by rw [r8 ig,List.length_map] at hj;exact hj)⟩
 rename_i e
 rw [Option.map_eq_some_iff] at hk'
 obtain ⟨r1,h5,rfl⟩:=hk'
 have:=key r1 h5 hm _ rfl
 rw [this.1]
 exact ⟨this.2.1,this.2.2.1,fun j hj=>this.2.2.2 j (by simpa [Rt.kill] using hj)⟩
theorem Rel.fj {w0:World} {g0:Gh} {st:St} {a:Act} (hR:Rel w0 g0 st a w g) (h:u6 w g w' g' k p q b0 t0 u src) {k1 q1:Nat} (hne:k1 ≠ k)
  (hs:∀ t,src t→t.within k1 [] q1) (hu:g.cv k1 [] q1=u) (YW:u.oneCell'=true)
  (h1:w'.os=w.os) (h2:w'.tape=w.tape) (h3:w'.output=w.output) (h4:w'.heap.size=w.heap.size)
  {r:Rt} (hk:st.root k=some r) {c:C} {row':List C} (ig:setRow (r.row.map (C.kill (dP k p q))) p q c=some row') (hc:Ic w' g' k p q c):
  Rel w0 g0 (st.wrote k p q r.mem row' (some (k1,q1))) a w' g':=by
 have hbox:∀ k',¬ src (.box k'):=fun k' ht=>by
  obtain ⟨p',q',hx,_⟩:=hs _ ht
  cases hx
 have yu:∀ k' q',(k'=k1→q' ≠ q1)→∀ t,src t→¬ t.within k' [] q':=fun k' q' hn t ht hw=>by
  obtain ⟨p1,q2,rfl,YW⟩:=hs t ht
  obtain ⟨p2,q3,hx,Ss⟩:=hw
  simp only [Tag.cQ.injEq] at hx
  obtain ⟨rfl,rfl,rfl⟩:=hx
  rcases Un.both YW Ss with hx|hx
  rcases hx with ⟨_,hx⟩|⟨i,r,hx⟩
  exact hn rfl hx
  cases hx
  rcases hx with ⟨_,hx⟩|⟨i,r,hx⟩
  exact hn rfl hx.symm
  cases hx
 refine hR.change h.LO (St.Eh ..) ⟨fun k' r' hk' j c' hj=> ?_,fun k' r' hk' hm=> ?_⟩ (h.keeps hR.ks h1 h2 h3 h4)
 rw [St.o4 _ _ _ _ _ _ _ _ _ hne] at hk'
 split at hk'
 rename_i e
 simp only [Option.some.injEq] at hk'
 subst hk';subst e
 exact h.here (hR.rt.cell k' r hk) ig hc (fun t q' ht=>yu k' q' (fun e=>absurd e.symm hne) t ht) j c' hj
 rename_i e
 split at hk'
 rename_i e1
 subst e1
 rw [Option.map_eq_some_iff] at hk'
 obtain ⟨r1,h5,rfl⟩:=hk'
 simp only [List.getElem?_set] at hj
 by_cases ej:q1=j
 subst ej
 rw [if_pos rfl] at hj
 split at hj
 simp only [Option.some.injEq] at hj
 subst hj
 show g'.cv k' [] q1=g'.cv k p q∧(g'.cv k' [] q1).oneCell'=true
 rw [h.cv k' [] q1 (fun ⟨e',_⟩=>e e'),h.new,hu]
 exact ⟨rfl,YW⟩
 cases hj
 rw [if_neg ej,List.getElem?_map,Option.map_eq_some_iff] at hj
 obtain ⟨c1,h6,rfl⟩:=hj
 exact h.PS (fun e'=>absurd e' e) (yu k' j (fun _=>fun hx=>ej hx.symm)) (hR.rt.cell k' r1 h5 j c1 h6)
 rename_i e1
 rw [Option.map_eq_some_iff] at hk'
 obtain ⟨r1,h5,rfl⟩:=hk'
 simp only [Rt.kill,List.getElem?_map,Option.map_eq_some_iff] at hj
 obtain ⟨c1,h6,rfl⟩:=hj
 exact h.PS (fun e'=>absurd e' e) (yu k' j (fun hx=>absurd hx e1)) (hR.rt.cell k' r1 h5 j c1 h6)
 rw [St.o4 _ _ _ _ _ _ _ _ _ hne] at hk'
 have key:∀ r1,st.root k'=some r1→r1.mem=true→∀ n,n=r1.row.length→_:=fun r1 h5 h6 n hn=>
  h.memR (k1:=k') (n:=n) rfl (hR.rt.mem k' r1 h5 h6).1 (hR.rt.mem k' r1 h5 h6).2.1 (fun j hj=>(hR.rt.mem k' r1 h5 h6).2.2 j (by omega)) (hbox _) (fun _ _=>trivial)
 split at hk'
 rename_i e
 simp only [Option.some.injEq] at hk'
 subst hk';subst e
 have:=key r hk hm _ rfl
 rw [this.1]
 exact ⟨this.2.1,this.2.2.1,fun j hj=>this.2.2.2 j (by rw [r8 ig,List.length_map] at hj;exact hj)⟩
 rename_i e
 split at hk'
 rename_i e1
 subst e1
 rw [Option.map_eq_some_iff] at hk'
 obtain ⟨r1,h5,rfl⟩:=hk'
 have:=key r1 h5 hm _ rfl
 rw [this.1]
 exact ⟨this.2.1,this.2.2.1,fun j hj=>this.2.2.2 j (by simpa using hj)⟩
 rename_i e1
 rw [Option.map_eq_some_iff] at hk'
 obtain ⟨r1,h5,rfl⟩:=hk'
 have:=key r1 h5 hm _ rfl
 rw [this.1]
 exact ⟨this.2.1,this.2.2.1,fun j hj=>this.2.2.2 j (by simpa [Rt.kill] using hj)⟩
end
section
variable (P:Program) (w0:World) (g0:Gh)
def fX (o:Oper) (st:St) (Q:St→Prop):Prop:=
 ∀ a w g,Rel w0 g0 st a w g→∀ (K:Act→World→Prop) (Q':Exit→Act→World→Prop),(∀ bD a' w' g',Q bD→Rel w0 g0 bD a' w' g'→K a' w')→o.wp P a w K Q'
def TL (ops:Array Oper) (l:List Oper) (st:St) (Q:St→Prop):Prop:=
 ∀ a w g,Rel w0 g0 st a w g→∀ (Q':Exit→Act→World→Prop),(∀ bD a' w' g',Q bD→Rel w0 g0 bD a' w' g'→Q' .normal a' w')→wpList P ops Q' l a w
def TC (c:Code) (st:St) (Q:Exit→St→Prop):Prop:=
 ∀ a w g,Rel w0 g0 st a w g→c.wp P (fun e a' w'=>∃ bD g',Q e bD∧Rel w0 g0 bD a' w' g') a w
end
abbrev V (v:Value):TS:= .one (.c (.ro (.v v)))
def cy (z:Nat) (st:St):Operand→Option TS
 | .tmp t=>st.tmps[t]?
 | .const v=>if plain v then some (V v) else match v with| .slice none 0 0=>some (.one (.c (.ro (.sl z []))))|_=>none
 | .func f=>some (.fn f [])
 | .global _=>none
section
variable {P:Program} {w0:World} {g0:Gh}
theorem Rel.cy {st:St} {a:Act} {w:World} {g:Gh} (h:Rel w0 g0 st a w g) {z:Nat} {x:Operand} {t:TS} (hx:cy z st x=some t):dy w g t (a.eval x):=by
 cases x with
 | tmp i=>exact h.tm i t hx
 | const v=>
  simp only [T.cy] at hx
  split at hx
  rename_i hp
  simp only [Option.some.injEq] at hx
  subst hx
  exact .one _ _ (.c _ _ (Ro.v v hp))
  split at hx
  simp only [Option.some.injEq] at hx
  subst hx
  exact .one _ _ (.c _ _ (Ro.nil z none 0))
  cases hx
 | func f=>
  simp only [T.cy,Option.some.injEq] at hx
  subst hx
  exact .fn f [] #[] rfl (fun j t u h1 _=>by simp at h1)
 | global g=>cases hx
theorem SH {w:World} {g:Gh} {v u:Value} (h:dy w g (V v) u):u=v:=by
 cases h with
 | one _ _ h=>
  cases h with
  | c _ _ h=>
   have h':Ro w g.o (.v v) u:=h
   cases h'
   rfl
theorem yw {w:World} {g:Gh} {v:Value} (h:plain v=true):dy w g (V v) v:= .one _ _ (.c _ _ (Ro.v v h))
theorem Rel.val {st:St} {a:Act} {w:World} {g:Gh} (h:Rel w0 g0 st a w g) {z:Nat} {x:Operand} {v:Value} (hx:T.cy z st x=some (V v)):a.eval x=v:=SH (h.cy hx)
theorem TC.mono {c:Code} {st:St} {Q Q':Exit→St→Prop} (h:TC P w0 g0 c st Q) (hq:∀ e st,Q e st→Q' e st):TC P w0 g0 c st Q':=
 fun a w g hR=>wp_mono (h a w g hR) fun e a' w' ⟨bD,g',q,r⟩=>⟨bD,g',hq _ _ q,r⟩
theorem TC.skip {st:St} {Q:Exit→St→Prop} (h:Q .normal st):TC P w0 g0 .skip st Q:=fun a w g hR=>wp_skip ⟨st,g,h,hR⟩
theorem TC.exit {st:St} {Q:Exit→St→Prop} {i:Nat} (h:Q (.exit i) st):TC P w0 g0 (.exit i) st Q:=fun a w g hR=>wp_exit ⟨st,g,h,hR⟩
theorem TC.ret {st:St} {Q:Exit→St→Prop} (h:Q .ret st):TC P w0 g0 .ret st Q:=fun a w g hR=>wp_ret ⟨st,g,h,hR⟩
def Seq (N:St→Prop) (Q:Exit→St→Prop):Exit→St→Prop
 | .normal,st=>N st
 | e,st=>Q e st
def Blk (i:Nat) (Q:Exit→St→Prop):Exit→St→Prop
 | .exit j,st=>if j=i then Q .normal st else Q (.exit j) st
 | e,st=>Q e st
theorem TC.seq {x y:Code} {st:St} {Q:Exit→St→Prop} (h:TC P w0 g0 x st (Seq (fun bD=>TC P w0 g0 y bD Q) Q)):TC P w0 g0 (.seq x y) st Q:=
 fun a w g hR=>wp_seq (wp_mono (h a w g hR) fun e a' w' ⟨bD,g',q,r⟩=>by
  cases e with
  | normal=>exact q a' w' g' r
  | _=>exact ⟨bD,g',q,r⟩)
theorem TC.block {i:Nat} {c:Code} {st:St} {Q:Exit→St→Prop} (h:TC P w0 g0 c st (Blk i Q)):TC P w0 g0 (.block i c) st Q:=
 fun a w g hR=>wp_block (wp_mono (h a w g hR) fun e a' w' ⟨bD,g',q,r⟩=>by
  cases e with
  | exit j=>
   simp only [Exit.inBlock]
   simp only [Blk] at q
   split
   rename_i e;rw [if_pos e] at q;exact ⟨bD,g',q,r⟩
   rename_i e;rw [if_neg e] at q;exact ⟨bD,g',q,r⟩
  | _=>exact ⟨bD,g',q,r⟩)
theorem TC.cond {c:Operand} {x y:Code} {st:St} {Q:Exit→St→Prop} {b:Bool} (hc:T.cy 0 st c=some (V (.bool b))) (h1:b=true→TC P w0 g0 x st Q) (h2:b=false→TC P w0 g0 y st Q):
  TC P w0 g0 (.cond c x y) st Q:=
 fun a w g hR=>wp_cond_split (hR.val hc) (fun e=>h1 e a w g hR) (fun e=>h2 e a w g hR)
theorem TC.loop {c:Code} {st:St} {Q:Exit→St→Prop} (I:Nat→St→Prop) (n0:Nat) (h0:I n0 st) (round:∀ n st,I n st→TC P w0 g0 c st (Seq (fun bD=>∃ n',n' < n∧I n' bD) Q)):
  TC P w0 g0 (.loop c) st Q:=
 fun a w g hR=>wp_loop_ghost (fun n a w=>∃ st g,I n st∧Rel w0 g0 st a w g) n0 ⟨st,g,h0,hR⟩ fun n a w ⟨st,g,hI,hR⟩=>
  wp_mono (round n st hI a w g hR) fun e a' w' ⟨bD,g',q,r⟩=>by
   cases e with
   | normal=>
    obtain ⟨n',hn,hI'⟩:=q
    exact ⟨n',hn,bD,g',hI',r⟩
   | _=>exact ⟨bD,g',q,r⟩
theorem TC.region {i:Nat} {ops:Array Oper} {st:St} {Q:Exit→St→Prop} (h:TL P w0 g0 ops ops.toList st (fun bD=>Q .normal bD)):TC P w0 g0 (.region i ops false) st Q:=
 fun a w g hR=>wp_region_list (h a w g hR _ fun bD a' w' g' q r=>⟨bD,g',q,r⟩)
theorem TL.nil {ops:Array Oper} {st:St} {Q:St→Prop} (h:Q st):TL P w0 g0 ops [] st Q:=fun a w g hR Q' hQ=>hQ st a w g h hR
def guardOf (ops:Array Oper) (st:St) (j:Nat):Option TS:=((ops[j]?).bind (·.dst)).bind (st.tmps[·]?)
theorem yx {ops:Array Oper} {st:St} {a:Act} {w:World} {g:Gh} (hR:Rel w0 g0 st a w g) {j:Nat} {b:Bool} (h:guardOf ops st j=some (V (.bool b))):yielded ops a.tmps j=some b:=by
 unfold guardOf at h
 unfold yielded
 cases hd:(ops[j]?).bind (·.dst) with
 | none=>rw [hd] at h;cases h
 | some d=>
  rw [hd] at h
  simp only [Option.bind_some] at h ⊢
  have h1:=SH (hR.tm d _ h)
  have hlt:d < a.tmps.size:=by
   rw [hR.sz]
   exact (List.getElem?_eq_some_iff.1 h).1
  have h2:a.tmps[d]? = some (.bool b):=by
   rw [Array.getD_eq_getD_getElem?] at h1
   rw [Array.getElem?_eq_getElem hlt] at h1 ⊢
   simpa using h1
  rw [h2]
def Ext (w w':World):Prop:=∀ b,b < w.heap.size→w'.heap[b]? = w.heap[b]?
theorem Ext.refl (w:World):Ext w w:=fun _ _=>rfl
theorem Ext.cell {w w':World} (h:Ext w w') {A:Addr} {v:Value} (hc:w.cell? A=some v):w'.cell? A=some v:=by
 have:=h A.block (World.block_lt_of_cell? w A hc)
 rw [World.cell?_of_block this]
 exact hc
def dQ (P:Program) (w0:World) (g0:Gh) (o:Oper) (st:St) (t:TS):Prop:=
 ∀ a w g,Rel w0 g0 st a w g→∃ v,(∀ w',Ext w w'→(execOp a.eval o).run P w'= .ok (.value v) w')∧dy w g t v
theorem fX.val {o:Oper} {st:St} {Q:St→Prop} {t:TS} (h:dQ P w0 g0 o st t) (hq:Q (st.put o.dst t)):fX P w0 g0 o st Q:=fun a w g hR K Q' hK=>by
 obtain ⟨v,hr,hv⟩:=h a w g hR
 unfold Oper.wp
 rw [hr w (Ext.refl w)]
 exact hK _ _ _ _ hq (hR.put hv o.dst)
section
variable {o:Oper} {st:St} {x y:Operand} {ty ty':TypeId}
theorem dQ.move {t:TS} (z:Nat) (ho:o.op= .move x) (hx:T.cy z st x=some t):dQ P w0 g0 o st t:=
 fun a w g hR=>⟨a.eval x,fun w' _=>by simp [execOp,ho],hR.cy hx⟩
theorem dQ.assign {t:TS} (z:Nat) (ho:o.op= .assign x) (hx:T.cy z st x=some t):dQ P w0 g0 o st t:=
 fun a w g hR=>⟨a.eval x,fun w' _=>by simp [execOp,ho],hR.cy hx⟩
theorem dQ.bin {op:BinOp} {vx vy r:Value} (ho:o.op= .binOp op ty x y ty') (hx:T.cy 0 st x=some (V vx)) (hy:T.cy 0 st y=some (V vy))
  (hp:plain vx=true) (hr:∀ w,(binOp op ty vx vy).run P w= .ok r w) (hpr:plain r=true):dQ P w0 g0 o st (V r):=
 fun a w g hR=>⟨r,fun w' _=>by
  have hgd:eqGuard op ty x y vx vy=pure ():=by
   cases vx with
   | bool b=>cases op <;> rfl
   | int k n=>cases op <;> rfl
   | string s=>cases op <;> rfl
   | _=>cases hp
  simp [execOp,ho,hR.val hx,hR.val hy,hgd,hr w'],yw hpr⟩
theorem dQ.not {b:Bool} (ho:o.op= .unOp .not ty x) (hx:T.cy 0 st x=some (V (.bool b))):dQ P w0 g0 o st (V (.bool (!b))):=
 fun a w g hR=>⟨.bool (!b),fun w' _=>by simp [execOp,ho,hR.val hx,Op.unary],yw rfl⟩
theorem dQ.pick {c:Operand} {b:Bool} {t:TS} (ho:o.op= .pick c x y) (hc:T.cy 0 st c=some (V (.bool b))) (hx:T.cy 0 st (if b then x else y)=some t):dQ P w0 g0 o st t:=
 fun a w g hR=>⟨a.eval (if b then x else y),fun w' _=>by cases b <;> simp [execOp,ho,hR.val hc,asBool],hR.cy hx⟩
theorem dQ.extract {i:Nat} {ts:List TV} {t:TV} (ho:o.op= .extract x i) (hx:T.cy 0 st x=some (.lp ts)) (hi:ts[i]? = some t):dQ P w0 g0 o st (.one t):=
 fun a w g hR=>by
  have:=hR.cy hx
  generalize hv:a.eval x=v at this
  cases this with
  | lp ts us hs h=>
   have hlt:i < us.size:=by rw [hs];exact (List.getElem?_eq_some_iff.1 hi).1
   refine ⟨us[i],fun w' _=> ?_, .one _ _ (h i t _ hi (Array.getElem?_eq_getElem hlt))⟩
   simp [execOp,ho,hv,Instr.extract,Array.getElem?_eq_getElem hlt]
end
abbrev I (n:Int):TS:=V (.int .i64 n)
abbrev B (b:Bool):TS:=V (.bool b)
theorem wrap_i64 {n:Int} (h1: -9223372036854775808 ≤ n) (h2:n ≤ 9223372036854775807):IntKind.i64.wrap n=n:=by
 by_cases h:n % 2 ^ 64 ≥ 2 ^ (64 - 1)
 simp only [IntKind.wrap,IntKind.signed,IntKind.bits,h,decide_true,Bool.and_self,if_true]
 omega
 simp only [IntKind.wrap,IntKind.signed,IntKind.bits,h,decide_false,Bool.and_false,Bool.false_eq_true,if_false]
 omega
section
variable {o:Oper} {st:St} {ty ty':TypeId} {x y:Operand} {k:IntKind} {a b:Int}
theorem dQ.lss (ho:o.op= .binOp .lss ty x y ty') (hx:T.cy 0 st x=some (V (.int k a))) (hy:T.cy 0 st y=some (V (.int k b))):dQ P w0 g0 o st (B (decide (a < b))):=
 dQ.bin ho hx hy rfl (fun w=>by rw [binOp_lss];rfl) rfl
theorem dQ.leq (ho:o.op= .binOp .leq ty x y ty') (hx:T.cy 0 st x=some (V (.int k a))) (hy:T.cy 0 st y=some (V (.int k b))):dQ P w0 g0 o st (B (decide (a ≤ b))):=
 dQ.bin ho hx hy rfl (fun w=>by rw [binOp_leq];rfl) rfl
theorem dQ.gtr (ho:o.op= .binOp .gtr ty x y ty') (hx:T.cy 0 st x=some (V (.int k a))) (hy:T.cy 0 st y=some (V (.int k b))):dQ P w0 g0 o st (B (decide (b < a))):=
 dQ.bin ho hx hy rfl (fun w=>by rw [binOp_gtr];rfl) rfl
theorem dQ.geq (ho:o.op= .binOp .geq ty x y ty') (hx:T.cy 0 st x=some (V (.int k a))) (hy:T.cy 0 st y=some (V (.int k b))):dQ P w0 g0 o st (B (decide (b ≤ a))):=
 dQ.bin ho hx hy rfl (fun w=>by rw [binOp_geq];rfl) rfl
theorem dQ.eql (ho:o.op= .binOp .eql ty x y ty') (hx:T.cy 0 st x=some (V (.int k a))) (hy:T.cy 0 st y=some (V (.int k b))):dQ P w0 g0 o st (B (a == b)):=
 dQ.bin ho hx hy rfl (fun w=>by rw [binOp_eql];rfl) rfl
theorem dQ.neq (ho:o.op= .binOp .neq ty x y ty') (hx:T.cy 0 st x=some (V (.int k a))) (hy:T.cy 0 st y=some (V (.int k b))):dQ P w0 g0 o st (B (a != b)):=
 dQ.bin ho hx hy rfl (fun w=>by rw [binOp_neq];rfl) rfl
theorem dQ.add (ho:o.op= .binOp .add ty x y ty') (hx:T.cy 0 st x=some (I a)) (hy:T.cy 0 st y=some (I b)) (h1: -9223372036854775808 ≤ a + b) (h2:a + b ≤ 9223372036854775807):dQ P w0 g0 o st (I (a + b)):=
 dQ.bin ho hx hy rfl (fun w=>by rw [binOp_add];simp only [Op.intArith];rw [wrap_i64 h1 h2];rfl) rfl
theorem dQ.sub (ho:o.op= .binOp .sub ty x y ty') (hx:T.cy 0 st x=some (I a)) (hy:T.cy 0 st y=some (I b)) (h1: -9223372036854775808 ≤ a - b) (h2:a - b ≤ 9223372036854775807):dQ P w0 g0 o st (I (a - b)):=
 dQ.bin ho hx hy rfl (fun w=>by rw [binOp_sub];simp only [Op.intArith];rw [wrap_i64 h1 h2];rfl) rfl
theorem dQ.eqlB {a b:Bool} (ho:o.op= .binOp .eql ty x y ty') (hx:T.cy 0 st x=some (B a)) (hy:T.cy 0 st y=some (B b)) (ht:P.underlying ty=some .bool):dQ P w0 g0 o st (B (a == b)):=
 dQ.bin ho hx hy rfl (fun w=>by simp [binOp,Op.equal,Op.maxDepth,run_equalIn_bool' _ _ _ _ _ ht]) rfl
theorem dQ.neqB {a b:Bool} (ho:o.op= .binOp .neq ty x y ty') (hx:T.cy 0 st x=some (B a)) (hy:T.cy 0 st y=some (B b)) (ht:P.underlying ty=some .bool):dQ P w0 g0 o st (B (!(a == b))):=
 dQ.bin ho hx hy rfl (fun w=>by simp [binOp,Op.equal,Op.maxDepth,run_equalIn_bool' _ _ _ _ _ ht]) rfl
theorem dQ.neqS {a b:ByteArray} (ho:o.op= .binOp .neq ty x y ty') (hx:T.cy 0 st x=some (V (.string a))) (hy:T.cy 0 st y=some (V (.string b))):dQ P w0 g0 o st (B !(a.toList == b.toList)):=
 dQ.bin ho hx hy rfl (fun w=>by rw [binOp_string_neq];rfl) rfl
theorem dQ.eqlS {a b:ByteArray} (ho:o.op= .binOp .eql ty x y ty') (hx:T.cy 0 st x=some (V (.string a))) (hy:T.cy 0 st y=some (V (.string b))):dQ P w0 g0 o st (B (a.toList == b.toList)):=
 dQ.bin ho hx hy rfl (fun w=>by rw [binOp_string_eql];rfl) rfl
end
end
def St.cellAt (st:St) (pl:Pl):Option C:=
 match st.root pl.k with
 | none=>none
 | some r=>
  match pl.p with
  | []=>r.row[pl.q]?
  | (q,i) :: p=>
   match r.row[q]? with
   | some (.own (.sl _ ds))=>
    match ds[i]? with
    | some d=>
     match rowAt d.row p with
     | some row=>
      match row[pl.q]? with
      | some x=>some (.own x)
      | none=>none
     | none=>none
    | none=>none
   | _=>none
def St.gv (st:St) (pl:Pl):Bool:=
 match pl.p with
 | []=>match st.root pl.k with|some r=>r.mem|none=>false
 | _=>true
def N3 (pl:Pl):C→C
 | .ro d=> .ro d
 | .own (.v x)=> .ro (.v x)
 | .own (.sl _ _)=> .ref pl
 | .own _=> .dead
 | .ref pl'=> .ref pl'
 | .dead=> .dead
def St.kT (st:St) (k:Nat) (p:List (Nat×Nat)):Nat→Nat→Option (List C)
 | _,0=>some []
 | q,n + 1=>
  match st.cellAt ⟨k,p,q⟩ with
  | some c=>
   match st.kT k p (q + 1) n with
   | some l=>some (N3 ⟨k,p,q⟩ c :: l)
   | none=>none
  | none=>none
section
variable {P:Program} {w0:World} {g0:Gh} {st:St} {a:Act} {w:World} {g:Gh}
theorem Rel.cellAt (hR:Rel w0 g0 st a w g) {pl:Pl} {c:C} (h:st.cellAt pl=some c):
  (∀ d,c= .own d→Ow w g pl.k pl.p pl.q d)∧fO w g (N3 pl c) (g.cv pl.k pl.p pl.q)∧(st.gv pl=true→w.cell? (bg (g.ad pl.k pl.p) pl.q)=some (g.cv pl.k pl.p pl.q))∧
  (st.gv pl=true→g.o (g.ad pl.k pl.p).1=nA pl.k pl.p∧∃ cs e,w.heap[(g.ad pl.k pl.p).1]? = some (.cells cs e (0,0))):=by
 obtain ⟨k,p,q⟩:=pl
 simp only [St.cellAt] at h
 have hval:∀ c,lE w g k q c→p=[]→(∀ d,c= .own d→Ow w g k p q d)∧fO w g (N3 ⟨k,p,q⟩ c) (g.cv k p q):=fun c hc hp=>by
  subst hp
  refine ⟨fun d e=>by subst e;exact hc, ?_⟩
  cases c with
  | ro d=>exact hc
  | own d=>
   cases d with
   | v x=>
    have h1:Ow w g k [] q (.v x):=hc
    cases h1 with
    | v _ _ _ hx he=>show Ro w g.o (.v x) (g.cv k [] q);rw [he];exact .v x hx
   | sl sz ds=>
    have h1:Ow w g k [] q (.sl sz ds):=hc
    refine ⟨rfl, ?_⟩
    cases h1 with
    | nil _ _ _ he=>rw [he];rfl
    | sl _ _ _ _ _ _ _ _ _ _ he=>rw [he];rfl
   | _=>trivial
  | ref pl=>exact hc
  | dead=>trivial
 split at h
 ·cases h
 ·rename_i r hr
  split at h
  ·skip
   have hc:=hR.rt.cell k r hr q c h
   have hv:=hval c hc rfl
   refine ⟨hv.1,hv.2,fun hm=> ?_,fun hm=> ?_⟩
   ·simp only [St.gv,hr] at hm
    exact (hR.rt.mem k r hr hm).2.2 q (List.getElem?_eq_some_iff.1 h).1
   ·simp only [St.gv,hr] at hm
    exact ⟨(hR.rt.mem k r hr hm).1,(hR.rt.mem k r hr hm).2.1⟩
  ·rename_i pold q1 i1 p1
   split at h
   ·rename_i sz ds hq
    split at h
    ·rename_i d hd
     split at h
     ·rename_i row hrow
      split at h
      ·rename_i x hx
       simp only [Option.some.injEq] at h
       subst h
       have h1:Ow w g k [] q1 (.sl sz ds):=hR.rt.cell k r hr q1 _ hq
       have h2:=(h1.row hd).at p1 hrow
       simp only [List.nil_append,List.singleton_append] at h2
       have h3:=h2.own q x hx
       have hlt:=(List.getElem?_eq_some_iff.1 hx).1
       refine ⟨fun d e=>by cases e;exact h3, ?_,fun _=>h2.cell q hlt,fun _=>⟨h2.tag, ?_⟩⟩
       ·cases x with
        | v y=>
         cases h3 with
         | v _ _ _ hy he=>show Ro w g.o (.v y) (g.cv k _ q);rw [he];exact .v y hy
        | sl sz' ds'=>
         refine ⟨rfl, ?_⟩
         cases h3 with
         | nil _ _ _ he=>rw [he];rfl
         | sl _ _ _ _ _ _ _ _ _ _ he=>rw [he];rfl
        | _=>trivial
       ·-- the block of the row
        have key:∀ (r:List (Nat×Nat)) (p0:List (Nat×Nat)) (sK row:List D),uC w g k p0 sK→(∃ cs e,w.heap[(g.ad k p0).1]? = some (.cells cs e (0,0)))→rowAt sK r=some row→
          ∃ cs e,w.heap[(g.ad k (p0 ++ r)).1]? = some (.cells cs e (0,0)):=by
         intro r
         induction r with
         | nil=>intro p0 sK row _ hb _;simpa using hb
         | cons y r ih=>
          obtain ⟨y1,y2⟩:=y
          intro p0 sK row hok hb hr
          simp only [rowAt] at hr
          split at hr
          ·rename_i sz' ds' DE
           split at hr
           ·rename_i d' pH
            have ho:=hok.own y1 _ DE
            have Ig:=ho.row pH
            have:=ih (p0 ++ [(y1,y2)]) d'.row row Ig (by
             cases ho with
             | nil _ _ _ hc=>simp at pH
             | sl _ _ _ _ b off n c cs ty hc hn hm hnc uA ho hb' hfit hro had hcell hel=>
              have hi:y2 < n:=by
               have:=(List.getElem?_eq_some_iff.1 pH).1
               omega
              rw [had y2 hi]
              exact ⟨cs,ty,hb'⟩) hr
            simpa using this
           ·cases hr
          ·cases hr
        have h0:∃ cs e,w.heap[(g.ad k ([] ++ [(q1,i1)])).1]? = some (.cells cs e (0,0)):=by
         cases h1 with
         | nil _ _ _ hc=>simp at hd
         | sl _ _ _ _ b off n c cs ty hc hn hm hnc uA ho hb' hfit hro had hcell hel=>
          have hi:i1 < n:=by
           have:=(List.getElem?_eq_some_iff.1 hd).1
           omega
          rw [had i1 hi]
          exact ⟨cs,ty,hb'⟩
        have:=key p1 ([] ++ [(q1,i1)]) d.row row (h1.row hd) h0 hrow
        simpa using this
      ·cases h
     ·cases h
    ·cases h
   ·cases h
theorem Rel.kT (hR:Rel w0 g0 st a w g) {k:Nat} {p:List (Nat×Nat)}:∀ {n q:Nat} {l:List C},st.kT k p q n=some l→st.gv ⟨k,p,q⟩=true→
  l.length=n∧(∀ j,j < n→w.cell? (bg (g.ad k p) (q + j))=some (g.cv k p (q + j)))∧∀ (j:Nat) c,l[j]? = some c→fO w g c (g.cv k p (q + j))
 | 0,q,l,h,_=>by
  simp only [St.kT,Option.some.injEq] at h
  subst h
  exact ⟨rfl,fun j hj=>absurd hj (Nat.not_lt_zero j),fun j c hj=>by simp at hj⟩
 | n + 1,q,l,h,hm=>by
  simp only [St.kT] at h
  split at h
  rename_i c hc
  split at h
  rename_i l' hl
  simp only [Option.some.injEq] at h
  subst h
  have h1:=hR.cellAt hc
  have h2:=Rel.kT hR hl hm
  refine ⟨by simp [h2.1],fun j hj=> ?_,fun j c' hj=> ?_⟩
  cases j with
  | zero=>exact h1.2.2.1 hm
  | succ j=>
   have:=h2.2.1 j (by omega)
   rw [show q + (j + 1)=q + 1 + j by omega]
   exact this
  cases j with
  | zero=>
   simp only [List.getElem?_cons_zero,Option.some.injEq] at hj
   subst hj
   exact h1.2.1
  | succ j=>
   simp only [List.getElem?_cons_succ] at hj
   rw [show q + (j + 1)=q + 1 + j by omega]
   exact h2.2.2 j c' hj
  cases h
  cases h
def u9 (P:Program) (t:TypeId):Option Bool:=(P.underlying t).map fun d=>match d with| .struct _| .array _ _=>true|_=>false
def jm (P:Program) (t:TypeId):Option Nat:=(P.info? t).map (·.size)
theorem gO {t:TypeId} {b:Bool} (h:u9 P t=some b) (w:World):(isAgg t).run P w= .ok b w:=by
 unfold u9 at h
 rw [Option.map_eq_some_iff] at h
 obtain ⟨d,h1,rfl⟩:=h
 simp only [isAgg,Sem.run_bind,run_underlying h1,Result.andThen]
 split <;> simp_all
theorem cU {t:TypeId} {n:Nat} (h:jm P t=some n) (w:World):(sizeOf t).run P w= .ok n w:=by
 unfold jm at h
 rw [Option.map_eq_some_iff] at h
 obtain ⟨i,h1,rfl⟩:=h
 simp [sizeOf,typeInfo,h1]
theorem sL (x:Nat×Nat) (q n:Nat):(bg x q).add n=bg x (q + n):=by
 simp only [bg,Addr.add]
 split
 subst_vars;rfl
 simp [Nat.add_assoc]
variable {o:Oper} {x y:Operand} {t e:TypeId}
theorem dQ.load (ho:o.op= .load t x) {pl:Pl} (hx:T.cy 0 st x=some (.one (.ptr pl))) (ht:u9 P t=some false) {c:C} (hc:st.cellAt pl=some c) (hm:st.gv pl=true):dQ P w0 g0 o st (.one (.c (N3 pl c))):=
 fun a w g hR=>by
  have h1:=hR.cy hx
  generalize hv:a.eval x=v at h1
  cases h1 with
  | one _ _ h1=>
   cases h1 with
   | ptr _=>
    have h2:=hR.cellAt hc
    refine ⟨g.cv pl.k pl.p pl.q,fun w' hw=> ?_, .one _ _ (.c _ _ h2.2.1)⟩
    have h3:=hw.cell (h2.2.2.1 hm)
    simp [execOp,ho,hv,Instr.loadAt,Instr.sureAddr,loadVar,gO ht,h3]
theorem dQ.We (ho:o.op= .load t x) {pl:Pl} (hx:T.cy 0 st x=some (.one (.ptr pl))) (ht:u9 P t=some true) {n:Nat} (hs:jm P t=some n) {l:List C}
  (hl:st.kT pl.k pl.p pl.q n=some l) (hm:st.gv pl=true):dQ P w0 g0 o st (.one (.agg l)):=
 fun a w g hR=>by
  have h1:=hR.cy hx
  generalize hv:a.eval x=v at h1
  cases h1 with
  | one _ _ h1=>
   cases h1 with
   | ptr _=>
    obtain ⟨h2,h3,h4⟩:=hR.kT hl hm
    refine ⟨.agg ((List.range n).map fun j=>g.cv pl.k pl.p (pl.q + j)).toArray,fun w' hw=> ?_, .one _ _ (.agg _ _ (by simp [h2]) fun j c u hj hu=> ?_)⟩
    have hrun:=run_loadCells (P:=P) w' (bg (g.ad pl.k pl.p) pl.q) n (fun j=>g.cv pl.k pl.p (pl.q + j)) (fun j hj=>by rw [sL];exact hw.cell (h3 j hj))
    simp [execOp,ho,hv,Instr.loadAt,Instr.sureAddr,loadVar,gO ht,cU hs,hrun]
    rw [List.getElem?_toArray,List.getElem?_map,Option.map_eq_some_iff] at hu
    obtain ⟨j',h5,rfl⟩:=hu
    rw [List.getElem?_range (by rw [← h2];exact (List.getElem?_eq_some_iff.1 hj).1)] at h5
    simp only [Option.some.injEq] at h5
    subst h5
    exact h4 j c hj
theorem dQ.loadC (ho:o.op= .load t x) {d:D} {ds:List D} (hx:T.cy 0 st x=some (.one (.bV (d :: ds)))) (ht:u9 P t=some false):dQ P w0 g0 o st (.one (.c (.ro d))):=
 fun a w g hR=>by
  have h1:=hR.cy hx
  generalize hv:a.eval x=v at h1
  cases h1 with
  | one _ _ h1=>
   cases h1 with
   | bV _ b off us hro hcell=>
    have h2:=hcell 0 d rfl
    refine ⟨us 0,fun w' hw=> ?_, .one _ _ (.c _ _ h2.2)⟩
    have h3:w'.cell? ⟨b,off,none⟩=some (us 0):=hw.cell h2.1
    simp [execOp,ho,hv,Instr.loadAt,Instr.sureAddr,loadVar,gO ht,h3]
theorem dQ.SI (ho:o.op= .load t x) {ds:List D} (hx:T.cy 0 st x=some (.one (.bV ds))) (ht:u9 P t=some true) {n:Nat} (hs:jm P t=some n) (hn:n ≤ ds.length):dQ P w0 g0 o st (.one (.agg ((ds.take n).map C.ro))):=
 fun a w g hR=>by
  have h1:=hR.cy hx
  generalize hv:a.eval x=v at h1
  cases h1 with
  | one _ _ h1=>
   cases h1 with
   | bV _ b off us hro hcell=>
    refine ⟨.agg ((List.range n).map us).toArray,fun w' hw=> ?_, .one _ _ (.agg _ _ (by simp;omega) fun j c u hj hu=> ?_)⟩
    have hrun:=run_loadCells (P:=P) w' ⟨b,off,none⟩ n us (fun j hj=>by
     rw [Addr.add_lit]
     exact hw.cell (hcell j ds[j] (List.getElem?_eq_getElem (by omega))).1)
    simp [execOp,ho,hv,Instr.loadAt,Instr.sureAddr,loadVar,gO ht,cU hs,hrun]
    rw [List.getElem?_map,Option.map_eq_some_iff] at hj
    obtain ⟨d,hj,rfl⟩:=hj
    rw [List.getElem?_take] at hj
    split at hj
    rename_i hjn
    rw [List.getElem?_toArray,List.getElem?_map,List.getElem?_range hjn] at hu
    simp only [Option.map_some,Option.some.injEq] at hu
    subst hu
    exact (hcell j d hj).2
    cases hj
def p_ (P:Program) (s:TypeId) (f:Nat):Option Nat:=
 match P.underlying s with
 | some (.struct fs)=>match fs[f]? with
  | some fl=>match jm P fl.type with
   | some 0=>none
   | some _=>some fl.offset
   | none=>none
  | none=>none
 | _=>none
theorem tD {s:TypeId} {f off:Nat} (h:p_ P s f=some off) (ad:Addr) (w:World):(Instr.fieldAt s (.pointer (some ad)) f).run P w= .ok (.pointer (some (ad.add off))) w:=by
 unfold p_ at h
 split at h
 rename_i fs hu
 split at h
 rename_i fl hf
 split at h
 cases h
 rename_i n hn0 hn
 simp only [Option.some.injEq] at h
 subst h
 have hz:n ≠ 0:=hn0
 simp [Instr.fieldAt,run_underlying hu,hf,Instr.sureAddr,fieldPlace,cU hn,hz]
 cases h
 cases h
 cases h
theorem dQ.field {s:TypeId} {f:Nat} (ho:o.op= .fieldAddr s x f) {pl:Pl} (hx:T.cy 0 st x=some (.one (.ptr pl))) {off:Nat} (hf:p_ P s f=some off):dQ P w0 g0 o st (.one (.ptr ⟨pl.k,pl.p,pl.q + off⟩)):=
 fun a w g hR=>by
  have h1:=hR.cy hx
  generalize hv:a.eval x=v at h1
  cases h1 with
  | one _ _ h1=>
   cases h1 with
   | ptr _=>
    refine ⟨_,fun w' hw=> ?_, .one _ _ (.ptr ⟨pl.k,pl.p,pl.q + off⟩)⟩
    simp [execOp,ho,hv,tD hf,sL]
theorem dQ.YX {s:TypeId} {f:Nat} (ho:o.op= .fieldAddr s x f) {ds:List D} (hx:T.cy 0 st x=some (.one (.bV ds))) {off:Nat} (hf:p_ P s f=some off):dQ P w0 g0 o st (.one (.bV (ds.drop off))):=
 fun a w g hR=>by
  have h1:=hR.cy hx
  generalize hv:a.eval x=v at h1
  cases h1 with
  | one _ _ h1=>
   cases h1 with
   | bV _ b of us hro hcell=>
    refine ⟨.pointer (some ⟨b,of + off,none⟩),fun w' hw=> ?_, .one _ _ (.bV _ b (of + off) (fun j=>us (off + j)) hro fun j d hj=> ?_)⟩
    simp [execOp,ho,hv,tD hf,Addr.add_lit]
    rw [List.getElem?_drop] at hj
    have:=hcell _ d hj
    rw [← Nat.add_assoc] at this
    exact this
theorem dQ.index (ho:o.op= .indexAddr t x y) {pl:Pl} {sz:Nat} {ds:List D} {k:IntKind} {i:Int} (hx:T.cy 0 st x=some (.one (.c (.ref pl)))) (hy:T.cy 0 st y=some (V (.int k i)))
  (hu:P.underlying t=some (.slice e)) (hs:jm P e=some sz) (hc:st.cellAt pl=some (.own (.sl sz ds))) (h0:0 ≤ i) (h1:i.toNat < ds.length):dQ P w0 g0 o st (.one (.ptr ⟨pl.k,pl.p ++ [(pl.q,i.toNat)],0⟩)):=
 fun a w g hR=>by
  have h2:=hR.cy hx
  generalize hv:a.eval x=v at h2
  cases h2 with
  | one _ _ h2=>
   cases h2 with
   | c _ _ h2=>
    have h3:v=g.cv pl.k pl.p pl.q:=h2.1
    have h4:=(hR.cellAt hc).1 _ rfl
    cases h4 with
    | nil _ _ _ Cf=>simp at h1
    | sl _ _ _ _ b off n c cs ty fL hn hm hnc uA ho' hb hfit hrow had hcell hel=>
     rw [fL] at h3
     subst h3
     have hlt:i < (n:Int):=by omega
     refine ⟨_,fun w' hw=> ?_, .one _ _ (.ptr ⟨pl.k,pl.p ++ [(pl.q,i.toNat)],0⟩)⟩
     simp only [execOp,ho,hv,hR.val hy,Sem.run_bind,Sem.run_pure,Instr.indexAt,asIntOf,Result.andThen_ok,run_underlying hu,cU hs]
     simp [h0,hlt,cU hs,bg,had i.toNat (by omega),Addr.add_lit]
theorem dQ.YY (ho:o.op= .indexAddr t x y) {sz:Nat} {ds:List D} {d:D} {k:IntKind} {i:Int} (hx:T.cy 0 st x=some (.one (.c (.ro (.sl sz ds))))) (hy:T.cy 0 st y=some (V (.int k i)))
  (hu:P.underlying t=some (.slice e)) (hs:jm P e=some sz) (h0:0 ≤ i) (h1:ds[i.toNat]? = some d):dQ P w0 g0 o st (.one (.bV d.row)):=
 fun a w g hR=>by
  have h2:=hR.cy hx
  generalize hv:a.eval x=v at h2
  cases h2 with
  | one _ _ h2=>
   cases h2 with
   | c _ _ h2=>
    have h3:Ro w g.o (.sl sz ds) v:=h2
    cases h3 with
    | nil _ _ _=>simp at h1
    | sl _ _ b off n c us hn hm hnc hro hrow hcell hel=>
     have hl:=(List.getElem?_eq_some_iff.1 h1).1
     have hlt:i < (n:Int):=by omega
     refine ⟨.pointer (some ⟨b,off + i.toNat * sz,none⟩),fun w' hw=> ?_, .one _ _ (.bV _ b _ (fun j=>us (i.toNat * sz + j)) hro fun j c' hj=> ?_)⟩
     simp only [execOp,ho,hv,hR.val hy,Sem.run_bind,Sem.run_pure,Instr.indexAt,asIntOf,Result.andThen_ok,run_underlying hu,cU hs]
     simp [h0,hlt,cU hs,Addr.add_lit]
     refine ⟨?_,hel _ d h1 j c' hj⟩
     have hj':j < sz:=by
      rw [← hrow d (List.mem_of_getElem? h1)]
      exact (List.getElem?_eq_some_iff.1 hj).1
     have h5:i.toNat * sz + j < n * sz:=by
      have:(i.toNat + 1) * sz ≤ n * sz:=Nat.mul_le_mul_right _ (by omega)
      rw [Nat.add_mul] at this
      omega
     have:=hcell _ h5
     rw [← Nat.add_assoc] at this
     exact this
def lu (st:St):TS→Option (Nat×List D)
 | .one (.c (.ro (.sl sz ds)))=>some (sz,ds)
 | .one (.c (.ref pl))=>match st.cellAt pl with|some (.own (.sl sz ds))=>some (sz,ds)|_=>none
 | .one (.cut pl sz lo hi)=>match st.cellAt pl with|some (.own (.sl s ds))=>if s=sz then some (sz,(ds.take hi).drop lo) else none|_=>none
 | _=>none
theorem Rel.list (hR:Rel w0 g0 st a w g) {tv:TS} {sz:Nat} {ds:List D} (h:lu st tv=some (sz,ds)) {v:Value} (hv:dy w g tv v):∃ ad c,v= .slice ad ds.length c∧ds.length ≤ most:=by
 unfold lu at h
 split at h
 rename_i sz' ds'
 simp only [Option.some.injEq,Prod.mk.injEq] at h
 obtain ⟨rfl,rfl⟩:=h
 cases hv with
 | one _ _ h1=>
  cases h1 with
  | c _ _ h2=>
   have h3:Ro w g.o (.sl sz' ds') v:=h2
   cases h3 with
   | nil _ ad c=>exact ⟨ad,c,rfl,Nat.zero_le _⟩
   | sl _ _ b off n c us hn hm hnc hro hrow hcell hel=>exact ⟨_,c,by rw [hn],by rw [hn];exact hm⟩
 rename_i pl
 split at h
 rename_i sz' ds' hc
 simp only [Option.some.injEq,Prod.mk.injEq] at h
 obtain ⟨rfl,rfl⟩:=h
 have h4:=(hR.cellAt hc).1 _ rfl
 cases hv with
 | one _ _ h1=>
  cases h1 with
  | c _ _ h2=>
   have h3:v=g.cv pl.k pl.p pl.q:=h2.1
   cases h4 with
   | nil _ _ _ Cf=>exact ⟨none,0,by rw [h3,Cf];rfl,Nat.zero_le _⟩
   | sl _ _ _ _ b off n c cs ty fL hn hm hnc uA ho' hb hfit hrow had hcell hel=>exact ⟨_,c,by rw [h3,fL,hn],by rw [hn];exact hm⟩
 cases h
 rename_i pl sz1 lo hi
 split at h
 rename_i s' ds' hc
 split at h
 rename_i zK
 subst zK
 simp only [Option.some.injEq,Prod.mk.injEq] at h
 obtain ⟨rfl,rfl⟩:=h
 have h4:=(hR.cellAt hc).1 _ rfl
 cases hv with
 | one _ _ h1=>
  cases h1 with
  | cut _ _ _ _ b off n c fL h5 h6 h7=>
   cases h4 with
   | nil _ _ _ Cf=>rw [Cf] at fL;cases fL
   | sl _ _ _ _ b' off' n' c' cs ty SE hn hm hnc uA ho' hb hfit hrow had hcell hel=>
    rw [SE] at fL
    simp only [Value.slice.injEq,Option.some.injEq,Addr.mk.injEq] at fL
    obtain ⟨_,rfl,rfl⟩:=fL
    have hlen:((ds'.take hi).drop lo).length=hi - lo:=by simp;omega
    rw [hlen]
    exact ⟨_,c' - lo,rfl,by omega⟩
 cases h
 cases h
 cases h
theorem dQ.len (ho:o.op= .call { callee:= .builtin .len,args:= #[x],argTypes:= #[t] }) {tv:TS} {sz:Nat} {ds:List D} (hx:T.cy 0 st x=some tv) (hl:lu st tv=some (sz,ds))
  (hu:P.underlying t=some (.slice e)):dQ P w0 g0 o st (I ds.length):=fun a w g hR=>by
 obtain ⟨ad,c,hv,_⟩:=hR.list hl (hR.cy hx)
 refine ⟨.int .i64 ds.length,fun w' hw=> ?_,yw rfl⟩
 simp [execOp,ho,resolve,invoke,builtin,Builtin.len_,run_underlying hu,hv,goInt]
theorem dQ.lenS (ho:o.op= .call { callee:= .builtin .len,args:= #[x],argTypes:= #[t] }) {s:ByteArray} (hx:T.cy 0 st x=some (V (.string s)))
  (hu:P.underlying t=some .string):dQ P w0 g0 o st (I s.size):=
 fun a w g hR=>⟨.int .i64 s.size,fun w' _=>by simp [execOp,ho,resolve,invoke,builtin,Builtin.len_,run_underlying hu,hR.val hx,goInt],yw rfl⟩
end
def Gh.wr (g:Gh) (k:Nat) (p:List (Nat×Nat)) (q:Nat) (u:Value):Gh:=
 {g with cv:=fun k' p' q'=>if k'=k∧p'=p∧q'=q then u else g.cv k' p' q' }
def behind (p:List (Nat×Nat)) (q:Nat) (P:List (Nat×Nat)):Option (Nat×List (Nat×Nat)):=
 match p,P with
 | [],(a,i) :: r=>if a=q then some (i,r) else none
 | x :: p,y :: P=>if x=y then behind p q P else none
 | _,[]=>none
theorem n9 (q i:Nat) (r:List (Nat×Nat)):∀ p:List (Nat×Nat),behind p q (p ++ (q,i) :: r)=some (i,r)
 | []=>by simp [behind]
 | x :: p=>by simp only [List.cons_append,behind,if_true];exact n9 q i r p
theorem Cg {q i:Nat} {r:List (Nat×Nat)}:∀ {p P:List (Nat×Nat)},behind p q P=some (i,r)→P=p ++ (q,i) :: r
 | [],(a,j) :: P,h=>by
  simp only [behind] at h
  split at h
  simp only [Option.some.injEq,Prod.mk.injEq] at h
  obtain ⟨rfl,rfl⟩:=h
  subst_vars
  rfl
  cases h
 | x :: p,y :: P,h=>by
  simp only [behind] at h
  split at h
  rename_i e
  rw [Cg h,e]
  rfl
  cases h
 | [],[],h=>by cases h
 | x :: p,[],h=>by cases h
theorem rB {q:Nat} {p P:List (Nat×Nat)} (h:¬ ∃ i r,P=p ++ (q,i) :: r):behind p q P=none:=by
 cases hb:behind p q P with
 | none=>rfl
 | some x=>
  obtain ⟨i,r⟩:=x
  exact absurd ⟨i,r,Cg hb⟩ h
def Gh.mv (g:Gh) (k1 q1 k:Nat) (p:List (Nat×Nat)) (q:Nat) (u:Value):Gh where
 o b:=match g.o b with
  | .cQ k' p' q'=>if k'=k1 then (if p'=[]∧q'=q1 then .cQ k p q else match behind [] q1 p' with|some (i,r)=> .cQ k (p ++ (q,i) :: r) q'|none=> .cQ k' p' q') else .cQ k' p' q'
  | t=>t
 ad k' p':=if k'=k then (match behind p q p' with|some (i,r)=>g.ad k1 ((q1,i) :: r)|none=>g.ad k' p') else g.ad k' p'
 cv k' p' q':=if k'=k then (if p'=p∧q'=q then u else match behind p q p' with|some (i,r)=>g.cv k1 ((q1,i) :: r) q'|none=>g.cv k' p' q') else g.cv k' p' q'
theorem Wr.Ei {w:World} {b0 t0:Nat} {u v:Value} (h:w.cell? ⟨b0,t0,none⟩=some v):Wr w (w.setCell ⟨b0,t0,none⟩ u) b0 t0 u:=by
 refine ⟨fun b hb=>RowKit.Below.heap_setCell w _ u b hb,fun cs e hc=> ?_,fun t ht=> ?_,World.cell?_setCell_same w _ u h⟩
 refine ⟨cs.setIfInBounds t0 u,by simp, ?_⟩
 simp [World.setCell,Array.getElem?_modify,hc]
 exact World.cell?_setCell_other w _ _ u (fun e=>ht (congrArg Addr.off e).symm)
theorem u6.X7 {w w':World} {g:Gh} {k:Nat} {p:List (Nat×Nat)} {q b0 t0:Nat} {u:Value} (hw:Wr w w' b0 t0 u) (ha:bg (g.ad k p) q=⟨b0,t0,none⟩) (ht:g.o b0=nA k p):
  u6 w g w' (g.wr k p q u) k p q b0 t0 u (fun _=>False):=
 ⟨hw,ha,ht,fun k' p' q' hn=>by
  show (if k'=k∧p'=p∧q'=q then u else g.cv k' p' q')=_
  rw [if_neg (fun ⟨h1,h2,h3⟩=>hn ⟨h1, .inl ⟨h2,h3⟩⟩)],fun _ _ _=>rfl,fun _ _=>rfl,fun _ h=>h.elim,fun _ h=>h.elim,fun _ h=>h.elim,by
  show (if k=k∧p=p∧q=q then u else g.cv k p q)=u
  rw [if_pos ⟨rfl,rfl,rfl⟩]⟩
def X8 (k1 q1:Nat) (t:Tag):Prop:=t= .cQ k1 [] q1 ∨ ∃ i r q',t= .cQ k1 ((q1,i) :: r) q'
theorem Gh.SJ {g:Gh} {k1 q1 k:Nat} {p:List (Nat×Nat)} {q:Nat} {u:Value} {b:Nat} (h:¬ X8 k1 q1 (g.o b)):(g.mv k1 q1 k p q u).o b=g.o b:=by
 simp only [Gh.mv]
 split
 rename_i k' p' q' ho
 rw [ho] at h
 by_cases hk:k'=k1
 subst hk
 rw [if_pos rfl,if_neg (fun ⟨h1,h2⟩=>h (.inl (by rw [h1,h2]))),rB (fun ⟨i,r,h1⟩=>h (.inr ⟨i,r,q',by rw [h1];rfl⟩)),ho]
 rw [if_neg hk,ho]
 rfl
theorem Gh.SK {g:Gh} {k1 q1 k:Nat} {p:List (Nat×Nat)} {q:Nat} {u:Value} {b:Nat} (h:g.o b= .cQ k1 [] q1):(g.mv k1 q1 k p q u).o b= .cQ k p q:=by
 simp [Gh.mv,h]
theorem Gh.SL {g:Gh} {k1 q1 k:Nat} {p:List (Nat×Nat)} {q:Nat} {u:Value} {b i q':Nat} {r:List (Nat×Nat)} (h:g.o b= .cQ k1 ((q1,i) :: r) q'):
  (g.mv k1 q1 k p q u).o b= .cQ k (p ++ (q,i) :: r) q':=by
 simp [Gh.mv,h,behind]
theorem u6.SM {w w':World} {g:Gh} {k:Nat} {p:List (Nat×Nat)} {q b0 t0:Nat} {u:Value} {k1 q1:Nat} (hw:Wr w w' b0 t0 u) (ha:bg (g.ad k p) q=⟨b0,t0,none⟩) (ht:g.o b0=nA k p)
  (hne:k1 ≠ k):u6 w g w' (g.mv k1 q1 k p q u) k p q b0 t0 u (X8 k1 q1):=by
 refine ⟨hw,ha,ht,fun k' p' q' hn=> ?_,fun k' p' hn=> ?_,fun b hb=>Gh.SJ hb,fun b hb=> ?_,fun b hb=> ?_,fun t hs=> ?_, ?_⟩
 simp only [Gh.mv]
 split
 rename_i e
 subst e
 rw [if_neg (fun ⟨h1,h2⟩=>hn ⟨rfl, .inl ⟨h1,h2⟩⟩),rB (fun ⟨i,r,h1⟩=>hn ⟨rfl, .inr ⟨i,r,h1⟩⟩)]
 rfl
 simp only [Gh.mv]
 split
 rename_i e
 subst e
 rw [rB (fun ⟨i,r,h1⟩=>hn ⟨rfl,i,r,h1⟩)]
 rfl
 rcases hb with h|⟨i,r,q',h⟩
 rw [Gh.SK h];simp [Tag.gu]
 rw [Gh.SL h];simp [Tag.gu]
 intro j
 rcases hb with h|⟨i,r,q',h⟩
 rw [Gh.SK h];simp
 rw [Gh.SL h];simp
 rcases hs with rfl|⟨i,r,q',rfl⟩
 exact ⟨k1,rfl,hne⟩
 exact ⟨k1,rfl,hne⟩
 simp [Gh.mv]
theorem Eg.SM {w w':World} {g:Gh} {k:Nat} {p:List (Nat×Nat)} {q b0 t0:Nat} {u:Value} {k1 q1:Nat} (hw:Wr w w' b0 t0 u) (ht:g.o b0=nA k p) (hne:k1 ≠ k) (hu:g.cv k1 [] q1=u):
  Eg w g w' (g.mv k1 q1 k p q u) k1 [] q1 k p q:=by
 have hb:∀ b,(g.o b).gu = some k1→w'.heap[b]? = w.heap[b]? :=fun b hb=>hw.other b (fun e=>by
  subst e
  rw [ht,mu] at hb
  exact hne (by simpa using hb.symm))
 refine ⟨?_,fun i r q'=> ?_,fun i r=> ?_,fun b h=>⟨Gh.SK h,hb b (by rw [h];rfl)⟩,fun b i r q' h=>⟨Gh.SL h,hb b (by rw [h];rfl)⟩⟩
 simp [Gh.mv,hu]
 simp [Gh.mv,n9]
 simp [Gh.mv,n9]
theorem zL {w:World} {A:Addr} {u:Value} (h:w.cell? A=some u):w.setCell A u=w:=by
 unfold World.cell? at h
 split at h
 rename_i c e f hb
 have hs:A.spot.isSome=false:=by
  cases hs:A.spot.isSome with
  | false=>rfl
  | true=>simp [hs] at h
 simp only [hs,Bool.false_eq_true,if_false] at h
 unfold World.setCell
 congr 1
 apply Array.ext
 simp
 intro i h1 h2
 rw [Array.getElem_modify]
 split
 rename_i e1
 subst e1
 have h3:w.heap[A.block]= .cells c e f:=by
  rw [Array.getElem?_eq_getElem h2] at hb
  simpa using hb
 simp only [h3,hs,Bool.false_eq_true,if_false]
 congr 1
 apply Array.ext
 simp
 intro j h4 h5
 rw [Array.getElem_setIfInBounds]
 split
 rename_i e2
 subst e2
 rw [Array.getElem?_eq_getElem h5] at h
 simpa using h.symm
 rfl
 rfl
 cases h
def St.dD (st:St) (pl:Pl) (c:C):Option St:=
 match st.root pl.k with
 | none=>none
 | some r=>
  let row:=r.row.map (C.kill (dP pl.k pl.p pl.q))
  match c with
  | .ro (.v x)=>(setRow row pl.p pl.q (.own (.v x))).map fun row'=>st.wrote pl.k pl.p pl.q r.mem row' none
  | .ro d=>if pl.p.isEmpty then (setRow row pl.p pl.q (.ro d)).map fun row'=>st.wrote pl.k pl.p pl.q r.mem row' none else none
  | .ref s=>
   if s.p.isEmpty && s.k != pl.k then
    match st.cellAt s with
    | some (.own d)=>match d with
     | .st _=>none
     | d=>(setRow row pl.p pl.q (.own d)).map fun row'=>st.wrote pl.k pl.p pl.q r.mem row' (some (s.k,s.q))
    | _=>if pl.p.isEmpty && !dP pl.k pl.p pl.q s then (setRow row pl.p pl.q (.ref s)).map fun row'=>st.wrote pl.k pl.p pl.q r.mem row' none else none
   else if pl.p.isEmpty && !dP pl.k pl.p pl.q s then (setRow row pl.p pl.q (.ref s)).map fun row'=>st.wrote pl.k pl.p pl.q r.mem row' none
   else if s.k=pl.k∧s.p=pl.p∧s.q=pl.q then some st
   else none
  | _=>none
section
variable {P:Program} {w0:World} {g0:Gh} {st:St} {a:Act} {w:World} {g:Gh}
theorem Rel.dD (hR:Rel w0 g0 st a w g) {pl:Pl} {c c0:C} {bD:St} {u:Value} (hc0:st.cellAt pl=some c0) (hm:st.gv pl=true) (hs:st.dD pl c=some bD) (hu:fO w g c u):
  ∃ g',Rel w0 g0 bD a (w.setCell (bg (g.ad pl.k pl.p) pl.q) u) g'∧oD w g (w.setCell (bg (g.ad pl.k pl.p) pl.q) u) g' (dP pl.k pl.p pl.q) (u7 pl.k pl.p pl.q)∧
   g'.ad pl.k pl.p=g.ad pl.k pl.p:=by
 obtain ⟨k,p,q⟩:=pl
 have h1:=hR.cellAt hc0
 have hcell:=h1.2.2.1 hm
 have N4:=(h1.2.2.2 hm).1
 have hw:Wr w (w.setCell (bg (g.ad k p) q) u) (g.ad k p).1 ((g.ad k p).2 + q) u:=Wr.Ei hcell
 have YZ:∀ g',u6 w g (w.setCell (bg (g.ad k p) q) u) g' k p q (g.ad k p).1 ((g.ad k p).2 + q) u (fun _=>False)→g'.ad k p=g.ad k p:=fun g' he=>he.ad k p (fun ⟨_,i,r,hx⟩=>by
  have:=congrArg List.length hx
  simp only [List.length_append,List.length_cons] at this
  omega)
 simp only [St.dD] at hs
 split at hs
 cases hs
 rename_i r hr
 have hE:=u6.X7 (g:=g) (k:=k) (p:=p) (q:=q) hw rfl N4
 have still:∀ (c1:C) row',setRow (r.row.map (C.kill (dP k p q))) p q c1=some row'→Ic (w.setCell (bg (g.ad k p) q) u) (g.wr k p q u) k p q c1→
   ∃ g',Rel w0 g0 (st.wrote k p q r.mem row' none) a (w.setCell (bg (g.ad k p) q) u) g'∧oD w g (w.setCell (bg (g.ad k p) q) u) g' (dP k p q) (u7 k p q)∧g'.ad k p=g.ad k p:=
  fun c1 row' ig xF=>⟨g.wr k p q u,hR.write hE (fun _ h=>h) rfl rfl rfl (by simp) hr ig xF,hE.LO,YZ _ hE⟩
 have SN:∀ s,c= .ref s→p.isEmpty=true→dP k p q s=false→Ic (w.setCell (bg (g.ad k p) q) u) (g.wr k p q u) k p q (.ref s):=fun s hcs hp hh=>by
  subst hcs
  have G7:p=[]:=List.isEmpty_iff.1 hp
  subst G7
  refine ⟨rfl, ?_⟩
  show (g.wr k [] q u).cv k [] q=(g.wr k [] q u).cv s.k s.p s.q∧((g.wr k [] q u).cv k [] q).oneCell'=true
  have h2:u=g.cv s.k s.p s.q∧u.oneCell'=true:=hu
  rw [hE.new,hE.cv _ _ _ (zJ hh)]
  exact h2
 split at hs
 rename_i x
 rw [Option.map_eq_some_iff] at hs
 obtain ⟨row',ig,rfl⟩:=hs
 have hx:Ro w g.o (.v x) u:=hu
 cases hx with
 | v _ hp=>exact still _ row' ig ⟨.v p q _ hp hE.new,rfl⟩
 rename_i d hd
 split at hs
 rename_i hp
 rw [Option.map_eq_some_iff] at hs
 obtain ⟨row',ig,rfl⟩:=hs
 have G7:p=[]:=List.isEmpty_iff.1 hp
 subst G7
 refine still _ row' ig ⟨rfl, ?_⟩
 show Ro _ (g.wr k [] q u).o d ((g.wr k [] q u).cv k [] q)
 rw [hE.new]
 exact Ro.mono hE.ro hu
 cases hs
 rename_i s
 split at hs
 rename_i zK
 simp only [Bool.and_eq_true,bne_iff_ne,ne_eq] at zK
 obtain ⟨hsp,eT⟩:=zK
 obtain ⟨k1,p1,q1⟩:=s
 simp only at hsp eT
 have Wf:p1=[]:=List.isEmpty_iff.1 hsp
 subst Wf
 have huv:u=g.cv k1 [] q1:=hu.1
 have move:∀ d,st.cellAt ⟨k1,[],q1⟩=some (.own d)→d.row=[d]→((setRow (r.row.map (C.kill (dP k p q))) p q (.own d)).map fun row'=>st.wrote k p q r.mem row' (some (k1,q1)))=some bD→
   ∃ g',Rel w0 g0 bD a (w.setCell (bg (g.ad k p) q) u) g'∧oD w g (w.setCell (bg (g.ad k p) q) u) g' (dP k p q) (u7 k p q)∧g'.ad k p=g.ad k p:=fun d hd SB hs=>by
  rw [Option.map_eq_some_iff] at hs
  obtain ⟨row',ig,rfl⟩:=hs
  have hM:=u6.SM (g:=g) (k:=k) (p:=p) (q:=q) (k1:=k1) (q1:=q1) hw rfl N4 eT
  have hO:Ow w g k1 [] q1 d:=(hR.cellAt hd).1 d rfl
  refine ⟨g.mv k1 q1 k p q u,hR.fj hM eT (fun t ht=> ?_) huv.symm hu.2 rfl rfl rfl (by simp) hr ig ⟨Ow.move hO (Eg.SM hw N4 eT huv.symm),SB⟩,hM.LO,hM.ad k p (fun ⟨_,i,r,hx⟩=>by
   have:=congrArg List.length hx
   simp only [List.length_append,List.length_cons] at this
   omega)⟩
  rcases ht with rfl|⟨i,r,q',rfl⟩
  exact ⟨_,_,rfl,Un.refl _ _⟩
  exact ⟨_,_,rfl, .inr ⟨i,r,rfl⟩⟩
 split at hs
 rename_i d hd
 split at hs
 cases hs
 rename_i JD
 refine move d hd ?_ hs
 cases d with
 | st ds=>exact absurd rfl (JD ds)
 | _=>rfl
 split at hs
 rename_i PT
 simp only [Bool.and_eq_true,Bool.not_eq_true'] at PT
 rw [Option.map_eq_some_iff] at hs
 obtain ⟨row',ig,rfl⟩:=hs
 exact still _ row' ig (SN _ rfl PT.1 PT.2)
 cases hs
 split at hs
 rename_i PT
 simp only [Bool.and_eq_true,Bool.not_eq_true'] at PT
 rw [Option.map_eq_some_iff] at hs
 obtain ⟨row',ig,rfl⟩:=hs
 exact still _ row' ig (SN _ rfl PT.1 PT.2)
 split at hs
 rename_i hself
 obtain ⟨sk,sp,sq⟩:=s
 obtain ⟨e1,e2,e3⟩:=hself
 simp only at e1 e2 e3
 subst e1;subst e2;subst e3
 simp only [Option.some.injEq] at hs
 subst hs
 have YW:u=g.cv sk sp sq:=hu.1
 rw [YW,zL hcell]
 exact ⟨g,hR,⟨fun b hb=>⟨hb,rfl⟩,fun _ _=>rfl,fun _ _=>rfl⟩,rfl⟩
 cases hs
 cases hs
end
theorem Ro.one {w:World} {o:Nat→Tag} {d:D} {u:Value} (h:Ro w o d u):u.oneCell'=true:=by
 cases h with
 | v x hp=>cases u <;> first|rfl|cases hp
 | _=>rfl
theorem fO.one {w:World} {g:Gh} {c:C} {u:Value} (h:fO w g c u) (hc:c ≠ .dead):u.oneCell'=true:=by
 cases c with
 | ro d=>exact Ro.one h
 | own d=>exact h.elim
 | ref pl=>exact h.2
 | dead=>exact absurd rfl hc
theorem sM {v:Value} (h:v.oneCell'=true):v.cells= #[v]:=by
 cases v <;> first|rfl|cases h
section
variable {P:Program} {w0:World} {g0:Gh} {st:St} {a:Act} {w:World} {g:Gh}
theorem pI {pl:Pl} {c:C} {bD:St} (h:st.dD pl c=some bD):c ≠ .dead:=by
 intro e
 subst e
 simp only [St.dD] at h
 split at h <;> cases h
theorem mU {ad:Addr} {u x:Value} {cs:Array Value} {e:TypeId} (hu:u.oneCell'=true) (hc:w.cell? ad=some x) (hb:w.heap[ad.block]? = some (.cells cs e (0,0))):
  (store ad u).run P w= .ok () (w.setCell ad u):=by
 rw [run_store P w ad u _ hu,hc]
 have hf:w.frozen? ad=false:=by simp [World.frozen?,hb]
 simp [hf]
def St.storeAll (k:Nat) (p:List (Nat×Nat)):List C→(C→C)→Nat→St→Option St
 | [],_,_,st=>some st
 | c :: cs,f,q,st=>
  match st.cellAt ⟨k,p,q⟩ with
  | some _=>
   match st.dD ⟨k,p,q⟩ (f c) with
   | some bD=>St.storeAll k p cs (fun c=>(f c).kill (dP k p q)) (q + 1) bD
   | none=>none
  | none=>none
theorem rC {k:Nat} {p:List (Nat×Nat)} {q q':Nat} {c:C} {bD:St} (hs:st.dD ⟨k,p,q⟩ c=some bD) (hm:st.gv ⟨k,p,q⟩=true):bD.gv ⟨k,p,q'⟩=true:=by
 simp only [St.gv] at hm ⊢
 cases p with
 | cons x p=>rfl
 | nil=>
  show (match bD.root k with|some r=>r.mem|none=>false)=true
  replace hm:(match st.root k with|some r=>r.mem|none=>false)=true:=hm
  simp only [St.dD] at hs
  cases hr:st.root k with
  | none=>rw [hr] at hm;cases hm
  | some r=>
   rw [hr] at hm hs
   replace hm:r.mem=true:=hm
   dsimp only at hs
   have key:∀ row' s,(s:Option (Nat×Nat)).all (fun x=>x.1 != k)=true→((st.wrote k [] q r.mem row' s).root k).any (·.mem)=true:=by
    intro row' s X9
    cases s with
    | none=>rw [St.lY];simp [hm]
    | some x=>
     obtain ⟨k1,q1⟩:=x
     have hne:k1 ≠ k:=by simpa using X9
     rw [St.o4 _ _ _ _ _ _ _ _ _ hne];simp [hm]
   have fin:∀ row' s,bD=st.wrote k [] q r.mem row' s→(s:Option (Nat×Nat)).all (fun x=>x.1 != k)=true→(match bD.root k with|some r=>r.mem|none=>false)=true:=by
    intro row' s e X9
    have:=key row' s X9
    rw [← e] at this
    cases h':bD.root k with
    | none=>rw [h'] at this;cases this
    | some r'=>rw [h'] at this;exact this
   split at hs
   rw [Option.map_eq_some_iff] at hs
   obtain ⟨row',_,rfl⟩:=hs
   exact fin row' none rfl rfl
   split at hs
   rw [Option.map_eq_some_iff] at hs
   obtain ⟨row',_,rfl⟩:=hs
   exact fin row' none rfl rfl
   cases hs
   split at hs
   rename_i hc
   simp only [Bool.and_eq_true] at hc
   split at hs
   split at hs
   cases hs
   rw [Option.map_eq_some_iff] at hs
   obtain ⟨row',_,rfl⟩:=hs
   exact fin row' (some _) rfl hc.2
   split at hs
   rw [Option.map_eq_some_iff] at hs
   obtain ⟨row',_,rfl⟩:=hs
   exact fin row' none rfl rfl
   cases hs
   split at hs
   rw [Option.map_eq_some_iff] at hs
   obtain ⟨row',_,rfl⟩:=hs
   exact fin row' none rfl rfl
   split at hs
   simp only [Option.some.injEq] at hs
   subst hs
   rw [hr]
   exact hm
   cases hs
   cases hs
theorem Rel.storeAll {k:Nat} {p:List (Nat×Nat)}:∀ {cs:List C} {us:List Value} {f:C→C} {q:Nat} {st bD:St} {w:World} {g:Gh} (hR:Rel w0 g0 st a w g),cs.length=us.length→
  (∀ (j:Nat) c u,cs[j]? = some c→us[j]? = some u→fO w g (f c) u)→(cs ≠ []→st.gv ⟨k,p,q⟩=true)→St.storeAll k p cs f q st=some bD→
  ∃ w' g',(∀ A,bg (g.ad k p) q=A→∀ i N5,N5.add i=A→(storeCells N5 us i).run P w= .ok () w')∧Rel w0 g0 bD a w' g'
 | [],[],f,q,st,bD,w,g,hR,_,_,_,hs=>by
  simp only [St.storeAll,Option.some.injEq] at hs
  subst hs
  exact ⟨w,g,fun A hA i N5 hi=>rfl,hR⟩
 | c :: cs,u :: us,f,q,st,bD,w,g,hR,hl,hu,hm,hs=>by
  simp only [St.storeAll] at hs
  have hm:=hm (by simp)
  split at hs
  rename_i c0 hc0
  split at hs
  rename_i Sr hs1
  have hu0:=hu 0 c u rfl rfl
  obtain ⟨g1,V7,X_,had⟩:=hR.dD hc0 hm hs1 hu0
  have xF:=hR.cellAt hc0
  have hrun:=mU (P:=P) (u:=u) (hu0.one (pI hs1)) (xF.2.2.1 hm) (xF.2.2.2 hm).2.choose_spec.choose_spec
  obtain ⟨w',g',hr',hU⟩:=Rel.storeAll (cs:=cs) (us:=us) (f:=fun c=>(f c).kill (dP k p q)) V7 (by simpa using hl) (fun j c' u' hj hj'=> 
   (hu (j + 1) c' u' (by simpa using hj) (by simpa using hj')).kill X_) (fun _=>rC hs1 hm) hs
  refine ⟨w',g',fun A hA i N5 hi=> ?_,hU⟩
  have h2:=hr' (bg (g.ad k p) (q + 1)) (by rw [had]) (i + 1) N5 (by
   have:N5.add (i + 1)=(N5.add i).add 1:=by
    by_cases h:i=0
    subst h
    simp [Addr.add]
    simp [Addr.add,h,Nat.add_assoc]
   rw [this,hi, ← hA,sL])
  simp only [storeCells,Sem.run_bind,hi, ← hA]
  rw [hrun]
  exact h2
  cases hs
  cases hs
variable {o:Oper} {Q:St→Prop} {x y:Operand} {t e:TypeId}
theorem fX.store (ho:o.op= .store t x y) {pl:Pl} {c c0:C} {bD:St} {z:Nat} (hx:T.cy 0 st x=some (.one (.ptr pl))) (hy:T.cy z st y=some (.one (.c c))) (ht:jm P t=some 1)
  (hc0:st.cellAt pl=some c0) (hm:st.gv pl=true) (hs:st.dD pl c=some bD) (hq:Q (bD.put o.dst (.one .dead))):fX P w0 g0 o st Q:=fun a w g hR K Q' hK=>by
 have h1:=hR.cy hx
 have h2:=hR.cy hy
 generalize SO:a.eval x=vx at h1
 generalize Y0:a.eval y=vy at h2
 cases h1 with
 | one _ _ h1=>
  cases h1 with
  | ptr _=>
   cases h2 with
   | one _ _ h2=>
    cases h2 with
    | c _ _ h2=>
     obtain ⟨g',hU,_,_⟩:=hR.dD hc0 hm hs h2
     have xF:=hR.cellAt hc0
     have hone:=h2.one (pI hs)
     have hrun:=mU (P:=P) (u:=vy) hone (xF.2.2.1 hm) (xF.2.2.2 hm).2.choose_spec.choose_spec
     unfold Oper.wp
     have hx':(execOp a.eval o).run P w= .ok .skip (w.setCell (bg (g.ad pl.k pl.p) pl.q) vy):=by
      simp [execOp,ho,SO,Y0,Instr.storeAt,Instr.sureAddr,storeVar,sM hone,cU ht,storeCells,Addr.add_zero',hrun]
     rw [hx']
     exact hK _ _ _ _ hq (hU.put (.one _ _ (.dead _)) o.dst)
theorem fX.LQ (ho:o.op= .store t x y) {pl:Pl} {cs:List C} {bD:St} (hx:T.cy 0 st x=some (.one (.ptr pl))) (hy:T.cy 0 st y=some (.one (.agg cs))) {n:Nat} (ht:jm P t=some n)
  (hn:cs.length=n) (hm:st.gv pl=true) (hs:St.storeAll pl.k pl.p cs id pl.q st=some bD) (hq:Q (bD.put o.dst (.one .dead))):fX P w0 g0 o st Q:=fun a w g hR K Q' hK=>by
 have h1:=hR.cy hx
 have h2:=hR.cy hy
 generalize SO:a.eval x=vx at h1
 generalize Y0:a.eval y=vy at h2
 cases h1 with
 | one _ _ h1=>
  cases h1 with
  | ptr _=>
   cases h2 with
   | one _ _ h2=>
    cases h2 with
    | agg _ us hsz h2=>
     obtain ⟨w',g',hr,hU⟩:=Rel.storeAll (P:=P) (us:=us.toList) hR (by simpa using hsz.symm) (fun j c u hj hj'=>h2 j c u hj (by simpa using hj')) (fun _=>hm) hs
     have hrun:=hr _ rfl 0 _ (Addr.add_zero' _)
     unfold Oper.wp
     have hx':(execOp a.eval o).run P w= .ok .skip w':=by
      simp [execOp,ho,SO,Y0,Instr.storeAt,Instr.sureAddr,storeVar,Value.cells,cU ht,hrun,hsz,hn]
     rw [hx']
     exact hK _ _ _ _ hq (hU.put (.one _ _ (.dead _)) o.dst)
def SP (w:World) (g:Gh) (k:Nat):C→Value→Prop
 | .ro d,u=>Ro w g.o d u
 | .own (.v x),u=>u=x∧plain x=true
 | .own (.sl _ []),u=>u= .slice none 0 0
 | .own _,_=>False
 | .ref pl,u=>fO w g (.ref pl) u∧pl.k ≠ k
 | .dead,_=>True
theorem nw.vf (hR:Rel w0 g0 st a w g) {k:Nat} {ob:Obj} {g':Gh} (ho:∀ b,b ≠ w.heap.size→g'.o b=g.o b) (ha:∀ k',k' ≠ k→g'.ad k'=g.ad k') (hc:∀ k',k' ≠ k→g'.cv k'=g.cv k'):
  nw w g (w.alloc ob) g' (· ≠ k):=by
 have hn:∀ b,g.o b ≠ .outer→b ≠ w.heap.size:=fun b hb e=>hb (hR.ks.fresh b (by omega))
 have hh:∀ b,g.o b ≠ .outer→b ≠ w.heap.size→(w.alloc ob).heap[b]? = w.heap[b]? :=fun b h1 h2=>by
  have h3:b < w.heap.size:=by
   rcases Nat.lt_or_ge b w.heap.size with h|h
   exact h
   exact absurd (hR.ks.fresh b h) h1
  exact RowKit.Below.heap_alloc w ob b h3
 refine ⟨fun b hb=> ?_,fun k' hk' b hb=> ?_,ha,hc⟩
 have h1:g.o b ≠ .outer:=by rw [hb];simp
 rw [ho b (hn b h1)]
 exact ⟨hb,hh b h1 (hn b h1)⟩
 have h1:g.o b ≠ .outer:=fun e=>by rw [e] at hb;cases hb
 exact ⟨ho b (hn b h1),hh b h1 (hn b h1)⟩
theorem lF.vf (hk:lF w0 g0 w g) {ob:Obj} {g':Gh} (ho:∀ b,b ≠ w.heap.size→g'.o b=g.o b) (hn:g'.o w.heap.size ≠ .outer)
  (Ch:∀ q,g'.cv cm [] q=g.cv cm [] q) (hpa:g'.ad dN []=g.ad dN []) (hnb:g'.o w.heap.size ≠ .box cm):lF w0 g0 (w.alloc ob) g':=by
 refine ⟨hk.os,hk.tape,hk.output,by simp;have:=hk.size;omega,fun b hb hx=> ?_,fun b hb=> ?_,fun b hb hx=> ?_,⟨fun q=>(Ch q).trans (hk.uB.1 q),hpa.trans hk.uB.2⟩,fun b=> ?_⟩
 have h1:=hk.size
 have h2:b < w.heap.size:=by omega
 rw [ho b (by omega)]
 refine ⟨?_,(hk.block b hb hx).2⟩
 rw [← (hk.block b hb hx).1]
 exact RowKit.Below.heap_alloc w ob b h2
 simp at hb
 rw [ho b (by omega)]
 exact hk.fresh b (by omega)
 by_cases e:b=w.heap.size
 subst e;exact absurd hx hn
 rw [ho b e] at hx
 simp at hb
 exact hk.old b (by omega) hx
 by_cases e:b=w.heap.size
 subst e;exact hnb
 rw [ho b e];exact hk.ie b
theorem Rel.box (hR:Rel w0 g0 st a w g) {k:Nat} (hkp:k < 1000000) {cells:Array Value} {e:TypeId} {row:List C} (hl:row.length=cells.size)
  (hc:∀ (q:Nat) c u,row[q]? = some c→cells[q]? = some u→SP w g k c u):
  ∃ g',Rel w0 g0 (st.fresh k ⟨true,row⟩) a (w.alloc (.cells cells e)) g'∧g'.ad k []=(w.heap.size,0):=by
 let g':Gh:=
  {o:=fun b=>if b=w.heap.size then .box k else g.o b
   ad:=fun k'=>if k'=k then fun _=>(w.heap.size,0) else g.ad k'
   cv:=fun k'=>if k'=k then fun _ q=>cells.getD q undef else g.cv k' }
 have ho:∀ b,b ≠ w.heap.size→g'.o b=g.o b:=fun b hb=>if_neg hb
 have hS:nw w g (w.alloc (.cells cells e)) g' (· ≠ k):=nw.vf hR ho (fun k' hk'=>if_neg hk') (fun k' hk'=>if_neg hk')
 have fL:∀ q u,cells[q]? = some u→g'.cv k [] q=u:=fun q u hu=>by
  have:g'.cv k [] q=cells.getD q undef:=by simp [g']
  rw [this,Array.getD_eq_getD_getElem?,hu]
  rfl
 have had:g'.ad k []=(w.heap.size,0):=by simp [g']
 have yy:cm ≠ k:=by simp only [cm];omega
 have N6:dN ≠ k:=by simp only [dN];omega
 refine ⟨g',hR.grow hS (hR.ks.vf ho (by simp [g']) (fun q=>by simp only [g',if_neg yy]) (by simp only [g',if_neg N6]) (fun e=>by simp only [g',if_true,Tag.box.injEq] at e;exact yy e.symm)) (fun q c hq=> ?_) (fun _=>⟨by simp [g'],⟨cells,e,by rw [had];exact heap_alloc_new w _⟩,fun q hq=> ?_⟩),had⟩
 have DE:q < cells.size:=by rw [← hl];exact (List.getElem?_eq_some_iff.1 hq).1
 have hu:cells[q]? = some cells[q]:=Array.getElem?_eq_getElem DE
 have h1:=hc q c _ hq hu
 cases c with
 | ro d=>show Ro _ g'.o d (g'.cv k [] q);rw [fL q _ hu];exact Ro.mono hS.ro h1
 | own d=>
  cases d with
  | v x=>exact .v [] q x h1.2 (by rw [fL q _ hu];exact h1.1)
  | sl sz ds=>
   cases ds with
   | nil=>exact .nil [] q sz (by rw [fL q _ hu];exact h1)
   | cons=>exact h1.elim
  | _=>exact h1.elim
 | ref pl=>
  obtain ⟨⟨h2,h3⟩,h4⟩:=h1
  show g'.cv k [] q=g'.cv pl.k pl.p pl.q∧(g'.cv k [] q).oneCell'=true
  rw [fL q _ hu,hS.cv pl.k h4]
  exact ⟨h2,h3⟩
 | dead=>trivial
 have DE:q < cells.size:=by
  simp only at hq
  omega
 have hu:cells[q]? = some cells[q]:=Array.getElem?_eq_getElem DE
 rw [had,fL q _ hu]
 simp [bg]
def LR (k:Nat):C→C
 | .ro (.v x)=> .own (.v x)
 | .ro (.sl s l)=> .ro (.sl s l)
 | .ro (.st l)=> .ro (.st l)
 | .ro .hole=> .ro .hole
 | .ref pl=>if pl.k == k then .dead else .ref pl
 | .own d=> .own d
 | .dead=> .dead
theorem SP.SQ {k:Nat} {c:C} {u:Value} (h:fO w g c u):SP w g k (LR k c) u:=by
 cases c with
 | ro d=>
  cases d with
  | v x=>
   have h1:Ro w g.o (.v x) u:=h
   cases h1 with
   | v _ hp=>exact ⟨rfl,hp⟩
  | _=>exact h
 | own d=>exact h.elim
 | ref pl=>
  simp only [LR]
  split
  ·trivial
  ·rename_i hk
   exact ⟨h,by simpa using hk⟩
 | dead=>trivial
theorem fX.box (ho:o.op= .box t x) {k:Nat} (hd:o.dst=some k) {c:C} {z:Nat} (hx:T.cy z st x=some (.one (.c c))) (hc:c ≠ .dead) (hq:Q ((st.fresh k ⟨true,[LR k c]⟩).put (some k) (.one (.ptr ⟨k,[],0⟩)))) (hkp:k < 1000000:=by decide):
  fX P w0 g0 o st Q:=fun a w g hR K Q' hK=>by
 have h2:=hR.cy hx
 generalize hv:a.eval x=v at h2
 cases h2 with
 | one _ _ h2=>
  cases h2 with
  | c _ _ h2=>
   have hone:=h2.one hc
   obtain ⟨g',hU,had⟩:=hR.box (k:=k) hkp (cells:= #[v]) (e:=t) (row:=[LR k c]) rfl (fun q c' u hq hu=>by
    cases q with
    | zero=>
     simp only [List.getElem?_cons_zero,Option.some.injEq] at hq
     subst hq
     simp at hu
     subst hu
     exact SP.SQ h2
    | succ q=>simp at hq)
   unfold Oper.wp
   have hrun:(execOp a.eval o).run P w= .ok (.value (.pointer (some ⟨w.heap.size,0,none⟩))) (w.alloc (.cells #[v] t)):=by
    simp [execOp,ho,hv,Instr.box,newVar,newRow,sM hone]
   rw [hrun]
   refine hK _ _ _ g' hq ?_
   rw [hd]
   have hp:dy (w.alloc (.cells #[v] t)) g' (.one (.ptr ⟨k,[],0⟩)) (.pointer (some ⟨w.heap.size,0,none⟩)):=by
    have:=ef.ptr (w:=w.alloc (.cells #[v] t)) (g:=g') ⟨k,[],0⟩
    simp only [had,bg,Nat.add_zero] at this
    exact .one _ _ this
   exact hU.put hp (some k)
theorem fX.Y1 (ho:o.op= .box t x) {k:Nat} (hd:o.dst=some k) {cs:List C} (hx:T.cy 0 st x=some (.one (.agg cs))) (hq:Q ((st.fresh k ⟨true,cs.map (LR k)⟩).put (some k) (.one (.ptr ⟨k,[],0⟩)))) (hkp:k < 1000000:=by decide):
  fX P w0 g0 o st Q:=fun a w g hR K Q' hK=>by
 have h2:=hR.cy hx
 generalize hv:a.eval x=v at h2
 cases h2 with
 | one _ _ h2=>
  cases h2 with
  | agg _ us hsz h2=>
   obtain ⟨g',hU,had⟩:=hR.box (k:=k) hkp (cells:=us) (e:=t) (row:=cs.map (LR k)) (by simp [hsz]) (fun q c' u hq hu=>by
    rw [List.getElem?_map,Option.map_eq_some_iff] at hq
    obtain ⟨c,hq,rfl⟩:=hq
    exact SP.SQ (h2 q c u hq hu))
   unfold Oper.wp
   have hrun:(execOp a.eval o).run P w= .ok (.value (.pointer (some ⟨w.heap.size,0,none⟩))) (w.alloc (.cells us t)):=by
    simp [execOp,ho,hv,Instr.box,newVar,newRow,Value.cells]
   rw [hrun]
   refine hK _ _ _ g' hq ?_
   rw [hd]
   have hp:dy (w.alloc (.cells us t)) g' (.one (.ptr ⟨k,[],0⟩)) (.pointer (some ⟨w.heap.size,0,none⟩)):=by
    have:=ef.ptr (w:=w.alloc (.cells us t)) (g:=g') ⟨k,[],0⟩
    simp only [had,bg,Nat.add_zero] at this
    exact .one _ _ this
   exact hU.put hp (some k)
def xR (P:Program):Nat→TypeId→Option (List D)
 | 0,_=>none
 | n + 1,t=>
  match P.underlying t with
  | some .bool=>some [.v (.bool false)]
  | some (.int k)=>some [.v (.int k 0)]
  | some .string=>some [.v (.string ⟨#[]⟩)]
  | some (.slice e)=>(jm P e).map fun s=>[.sl s []]
  | some (.struct fs)=>fs.toList.foldr (fun f acc=>match xR P n f.type,acc with|some l,some r=>some (l ++ r)|_,_=>none) (some [])
  | _=>none
def zeroV:D→Value
 | .v x=>x
 | _=> .slice none 0 0
def r9:D→Bool
 | .v x=>plain x
 | .sl _ []=>true
 | _=>false
theorem fX.alloc (ho:o.op= .alloc t) {k:Nat} (hd:o.dst=some k) {z:Value} (hz:(P.info? t).bind (·.zero)=some z) {row:List D} (hrow:xR P 6 t=some row)
  (hv:z.cells.toList=row.map zeroV) (hok:row.all r9=true) (hq:Q ((st.fresh k ⟨true,row.map C.own⟩).put (some k) (.one (.ptr ⟨k,[],0⟩)))) (hkp:k < 1000000:=by decide):fX P w0 g0 o st Q:=fun a w g hR K Q' hK=>by
 have hsz:row.length=z.cells.size:=by
  have:=congrArg List.length hv
  simpa using this.symm
 obtain ⟨g',hU,had⟩:=hR.box (k:=k) hkp (cells:=z.cells) (e:=t) (row:=row.map C.own) (by simpa using hsz) (fun q c' u hq hu=>by
  rw [List.getElem?_map,Option.map_eq_some_iff] at hq
  obtain ⟨d,hq,rfl⟩:=hq
  have hdk:=List.all_eq_true.1 hok d (List.mem_of_getElem? hq)
  have SA:u=zeroV d:=by
   rw [← Array.getElem?_toList,hv,List.getElem?_map,hq] at hu
   simpa using hu.symm
  subst SA
  cases d with
  | v x=>exact ⟨rfl,hdk⟩
  | sl sz ds=>cases ds with
   | nil=>exact rfl
   | cons=>cases hdk
  | _=>cases hdk)
 unfold Oper.wp
 have hzv:(zeroValue t).run P w= .ok z w:=by
  rw [Option.bind_eq_some_iff] at hz
  obtain ⟨i,h1,h2⟩:=hz
  simp [zeroValue,typeInfo,h1,h2]
 have hrun:(execOp a.eval o).run P w= .ok (.value (.pointer (some ⟨w.heap.size,0,none⟩))) (w.alloc (.cells z.cells t)):=by
  simp [execOp,ho,Instr.alloc,hzv,newVar,newRow]
 rw [hrun]
 refine hK _ _ _ g' hq ?_
 rw [hd]
 have hp:dy (w.alloc (.cells z.cells t)) g' (.one (.ptr ⟨k,[],0⟩)) (.pointer (some ⟨w.heap.size,0,none⟩)):=by
  have:=ef.ptr (w:=w.alloc (.cells z.cells t)) (g:=g') ⟨k,[],0⟩
  simp only [had,bg,Nat.add_zero] at this
  exact .one _ _ this
 exact hU.put hp (some k)
structure Less (st bD:St):Prop where
 tmps:bD.tmps.length=st.tmps.length∧∀ (i:Nat) t,bD.tmps[i]? = some t→t= .one .dead ∨ st.tmps[i]? = some t
 roots:∀ k r,bD.root k=some r→st.root k=some r
theorem Rel.less {bD:St} (hR:Rel w0 g0 st a w g) (h:Less st bD):Rel w0 g0 bD a w g:=by
 refine ⟨fun i t hi=> ?_,by rw [h.tmps.1];exact hR.sz,hR.df,⟨fun k r hk=>hR.rt.cell k r (h.roots k r hk),fun k r hk=>hR.rt.mem k r (h.roots k r hk)⟩,hR.ks⟩
 rcases h.tmps.2 i t hi with rfl|h1
 exact .one _ _ (.dead _)
 exact hR.tm i t h1
end
structure LS (w w':World) (v':Value) (xG:Option Nat) (n m sz:Nat) (olds news:List Value):Prop where
 os:w'.os=w.os
 tape:w'.tape=w.tape
 output:w'.output=w.output
 res:(v'= .slice none 0 0∧n=0∧m=0∧w'=w) ∨ ∃ b off c cs e,v'= .slice (some ⟨b,off,none⟩) (n + m) c∧n + m ≤ c∧c ≤ 9223372036854775807∧w'.heap[b]? = some (.cells cs e (0,0))∧off + c * sz ≤ cs.size∧
  (∀ t,t < n * sz→w'.cell? ⟨b,off + t,none⟩=olds[t]?)∧(∀ t,t < m * sz→w'.cell? ⟨b,off + n * sz + t,none⟩=news[t]?)∧
  ((xG=some b∧w'.heap.size=w.heap.size) ∨ (b=w.heap.size∧w'.heap.size=w.heap.size + 1))∧∀ b',b' < w.heap.size→b' ≠ b→w'.heap[b']? = w.heap[b']?
section
variable {P:Program} {w:World}
theorem JE {t t2 e e2 ty:TypeId} {i:TypeInfo} {z:Value} {sz bytes:Nat} (ht:P.underlying t=some (.slice e)) (Ih:P.underlying t2=some (.slice e2))
  (hi:P.info? e=some i) (hz:i.zero=some z) (hsz:i.size=sz) (hby:i.bytes=bytes) (hzs:z.cells.size=sz)
  {v x:Value} {xG:Option Nat} {n m:Nat} {olds news:List Value} (N7:olds.length=n * sz) (Ya:news.length=m * sz) (h1:∀ u ∈ news,u.oneCell'=true)
  (hv:(v= .slice none 0 0∧n=0∧xG=none) ∨ ∃ b off c cs e0,v= .slice (some ⟨b,off,none⟩) n c∧xG=some b∧n ≤ c∧c ≤ 9223372036854775807∧w.heap[b]? = some (.cells cs e0 (0,0))∧off + c * sz ≤ cs.size∧
   (∀ j u,olds[j]? = some u→w.cell? ⟨b,off + j,none⟩=some u))
  (hlen:∀ w,(Builtin.lenOf x).run P w= .ok m w) (hf:∀ w',(∀ a,w'.cell? a=w.cell? a)→(Builtin.firstCells sz m x).run P w'= .ok news.toArray w')
  (hmax:n + m ≤ 9223372036854775807) (hbytes:(n + m) * bytes ≤ 140737488355328):
  ∃ v' w',(Builtin.append_ #[t,t2] ty #[v,x]).run P w= .ok v' w'∧LS w w' v' xG n m sz olds news:=by
 subst hsz
 subst hby
 have hsmall:((n + m:Nat):Int) ≤ 9223372036854775807:=by omega
 rcases hv with ⟨rfl,rfl,rfl⟩|⟨b,off,c,cs,e0,rfl,rfl,hnc,uA,hb,hfit,hold⟩
 have holds:olds=[]:=List.eq_nil_of_length_eq_zero (by simpa using N7)
 subst holds
 by_cases hm:m=0
 subst hm
 have hn:news=[]:=List.eq_nil_of_length_eq_zero (by simpa using Ya)
 subst hn
 refine ⟨.slice none 0 0,w, ?_,rfl,rfl,rfl, .inl ⟨rfl,rfl,rfl,rfl⟩⟩
 have JF:=hf w (fun _=>rfl)
 simp [Builtin.append_,run_underlying ht,run_underlying Ih,sizeOf,typeInfo,hi,hlen,JF]
 have JF:=hf w.drew (fun _=>rfl)
 have h63':¬ (9223372036854775807 < (m:Int)):=by omega
 have Y2:¬ (281474976710656 < Builtin.nextslicecap m 0 * i.bytes):=by
  rw [nextslicecap_zero (by omega)]
  have:=hbytes
  simp only [Nat.zero_add] at this
  omega
 have hge:=grownCap_ge w m 0 e
 have uA:grownCap w m 0 e ≤ maxLen:=grownCap_le_maxLen w m 0 e (by simp only [maxLen];omega)
 have hrun:(Builtin.append_ #[t,t2] ty #[.slice none 0 0,x]).run P w=
   .ok (.slice (some ⟨w.heap.size,0,none⟩) m (grownCap w m 0 e)) (w.drew.alloc (.cells (news.toArray ++ Builtin.zeroCells z.cells (grownCap w m 0 e - m)) e)):=by
  simp [Builtin.append_,run_underlying ht,run_underlying Ih,sizeOf,typeInfo,zeroValue,hi,hz,hlen,hm,h63',Y2,Question.forced,run_firstCells_none,JF,newRow,grownCap]
 refine ⟨_,_,hrun,rfl,rfl,rfl, .inr ⟨w.heap.size,0,grownCap w m 0 e,_,e,by rw [Nat.zero_add],by omega,by simp only [maxLen] at uA;omega,heap_alloc_new w.drew _, ?_, ?_, ?_, .inr ⟨rfl,by simp⟩, ?_⟩⟩
 simp only [Array.size_append,List.size_toArray,size_zeroCells,hzs,Ya, ← Nat.add_mul,Nat.zero_add]
 exact Nat.mul_le_mul_right _ (by omega)
 intro t ht;simp at ht
 intro j hj
 have:(w.drew.alloc (.cells (news.toArray ++ Builtin.zeroCells z.cells (grownCap w m 0 e - m)) e)).cell? ⟨w.drew.heap.size,0 + 0 * i.size + j,none⟩=(news.toArray ++ Builtin.zeroCells z.cells (grownCap w m 0 e - m))[0 + 0 * i.size + j]? :=World.cell?_alloc_new w.drew _ e _
 rw [show w.heap.size=w.drew.heap.size from rfl,this]
 simp only [Nat.zero_mul,Nat.zero_add]
 rw [Array.getElem?_append_left (by simp;omega)]
 simp
 intro b' hb' _
 exact heap_alloc_old w.drew _ hb'
 by_cases hroom:n + m ≤ c
 have JF:=hf w (fun _=>rfl)
 have Yb:off + n * i.size + news.length ≤ cs.size:=by
  have:(n + m) * i.size ≤ c * i.size:=Nat.mul_le_mul_right _ hroom
  rw [Nat.add_mul] at this
  omega
 have hst:=run_storeCells_at P b (off + n * i.size) e0 news 0 cs w hb (by simpa using Yb) h1
 simp only [Nat.add_zero] at hst
 have hrun:(Builtin.append_ #[t,t2] ty #[.slice (some ⟨b,off,none⟩) n c,x]).run P w=
   .ok (.slice (some ⟨b,off,none⟩) (n + m) c) (w.setRow b (cs.toList.take (off + n * i.size) ++ news ++ cs.toList.drop (off + n * i.size + news.length)).toArray):=by
  simp [Builtin.append_,run_underlying ht,run_underlying Ih,sizeOf,typeInfo,hi,hlen,hroom,JF,Addr.add_lit,hst]
 have qc:=setRow_heap w b cs (cs.toList.take (off + n * i.size) ++ news ++ cs.toList.drop (off + n * i.size + news.length)).toArray e0 _ hb
 have hcell:∀ t,(w.setRow b (cs.toList.take (off + n * i.size) ++ news ++ cs.toList.drop (off + n * i.size + news.length)).toArray).cell? ⟨b,t,none⟩=
   (cs.toList.take (off + n * i.size) ++ news ++ cs.toList.drop (off + n * i.size + news.length))[t]? :=fun t=>by
  simp only [World.cell?]
  rw [qc]
  simp
 have LG:(cs.toList.take (off + n * i.size)).length=off + n * i.size:=by simp;omega
 refine ⟨_,_,hrun,rfl,rfl,rfl, .inr ⟨b,off,c,_,e0,rfl,hroom,uA,qc, ?_, ?_, ?_, .inl ⟨rfl,by simp⟩,fun b' _ hb'=>setRow_other w b b' _ hb'⟩⟩
 simp only [List.size_toArray,List.length_append,List.length_take,List.length_drop,Array.length_toList]
 omega
 intro j hj
 rw [hcell,List.append_assoc,List.getElem?_append_left (by omega),List.getElem?_take,if_pos (by omega)]
 have h2:=hold j olds[j] (List.getElem?_eq_getElem (by omega))
 simp only [World.cell?,hb] at h2
 have hlt:j < olds.length:=by omega
 rw [List.getElem?_eq_getElem hlt]
 simpa using h2
 intro j hj
 rw [hcell,List.append_assoc,List.getElem?_append_right (by omega),LG,List.getElem?_append_left (by omega)]
 congr 1
 omega
 have JF:=hf w.drew (fun _=>rfl)
 have h63':¬ (9223372036854775807 < ((n:Int) + (m:Int))):=by omega
 have Y2:¬ (281474976710656 < Builtin.nextslicecap (n + m) c * i.bytes):=by
  have:=growslice_fits (old:=c) (need:=n + m) (bytes:=i.bytes) (by omega) hbytes
  omega
 have hge:=grownCap_ge w (n + m) c e
 have hcm':grownCap w (n + m) c e ≤ maxLen:=grownCap_le_maxLen w (n + m) c e (by simp only [maxLen];omega)
 have hfo:=run_firstCells_some (P:=P) w.drew i.size n ⟨b,off,none⟩ n c olds N7 (fun j u hu=>by rw [Addr.add_lit];exact hold j u hu)
 have hrun:(Builtin.append_ #[t,t2] ty #[.slice (some ⟨b,off,none⟩) n c,x]).run P w=
   .ok (.slice (some ⟨w.heap.size,0,none⟩) (n + m) (grownCap w (n + m) c e)) (w.drew.alloc (.cells (olds.toArray ++ news.toArray ++ Builtin.zeroCells z.cells (grownCap w (n + m) c e - (n + m))) e)):=by
  simp [Builtin.append_,run_underlying ht,run_underlying Ih,sizeOf,typeInfo,zeroValue,hi,hz,hlen,hroom,h63',Y2,Question.forced,hfo,JF,newRow,grownCap, ← List.append_toArray]
 have hcell:∀ t,(w.drew.alloc (.cells (olds.toArray ++ news.toArray ++ Builtin.zeroCells z.cells (grownCap w (n + m) c e - (n + m))) e)).cell? ⟨w.heap.size,t,none⟩=
   (olds.toArray ++ news.toArray ++ Builtin.zeroCells z.cells (grownCap w (n + m) c e - (n + m)))[t]? :=fun t=>World.cell?_alloc_new w.drew _ e t
 refine ⟨_,_,hrun,rfl,rfl,rfl, .inr ⟨w.heap.size,0,grownCap w (n + m) c e,_,e,rfl,hge,by simp only [maxLen] at hcm';omega,heap_alloc_new w.drew _, ?_, ?_, ?_, .inr ⟨rfl,by simp⟩, ?_⟩⟩
 simp only [Array.size_append,List.size_toArray,size_zeroCells,hzs,Ya,N7, ← Nat.add_mul,Nat.zero_add]
 exact Nat.mul_le_mul_right _ (by omega)
 intro j hj
 rw [hcell,Array.append_assoc,Array.getElem?_append_left (by simp;omega)]
 simp
 intro j hj
 rw [hcell,Array.append_assoc,Array.getElem?_append_right (by simp;omega),Array.getElem?_append_left (by simp;omega)]
 simp only [List.size_toArray,List.getElem?_toArray,Nat.zero_add]
 congr 1
 omega
 intro b' hb' _
 exact heap_alloc_old w.drew _ hb'
end
def St.renew (st:St) (kl:List Nat) (k:Nat) (r:Rt):St:=
 {tmps:=(st.kill (fun pl=>kl.contains pl.k) (fun pl=>kl.contains pl.k)).tmps
  roots:=(k,r) :: (st.kill (fun pl=>kl.contains pl.k) (fun pl=>kl.contains pl.k)).roots.filter fun x=> !kl.contains x.1 }
theorem tE (kl:List Nat) (k':Nat) (h:kl.contains k'=false):∀ l:List (Nat×Rt),((l.filter fun x=> !kl.contains x.1).find? fun x=>x.1 == k')=l.find? fun x=>x.1 == k'
 | []=>rfl
 | x :: l=>by
  simp only [List.filter_cons,List.find?_cons]
  by_cases e:x.1=k'
  have h1:(!kl.contains x.1)=true:=by rw [e,h];rfl
  have h2:(x.1 == k')=true:=by simp [e]
  simp only [h1,if_true,List.find?_cons,h2]
  have h2:(x.1 == k')=false:=by simp [e]
  rw [h2]
  split
  simp only [List.find?_cons,h2]
  exact tE kl k' h l
  exact tE kl k' h l
theorem nJ (kl:List Nat) (k':Nat) (h:kl.contains k'=true):∀ l:List (Nat×Rt),((l.filter fun x=> !kl.contains x.1).find? fun x=>x.1 == k')=none
 | []=>rfl
 | x :: l=>by
  simp only [List.filter_cons]
  split
  rename_i hx
  have h2:(x.1 == k')=false:=by
   cases hb:(x.1 == k') with
   | false=>rfl
   | true=>
    have:x.1=k':=by simpa using hb
    rw [this,h] at hx
    cases hx
  simp only [List.find?_cons,h2]
  exact nJ kl k' h l
  exact nJ kl k' h l
theorem St.yz (st:St) (kl:List Nat) (k:Nat) (r:Rt) (k':Nat):
  (st.renew kl k r).root k'=if k'=k then some r else if kl.contains k' then none else (st.root k').map (Rt.kill fun pl=>kl.contains pl.k):=by
 by_cases h:k'=k
 subst h
 simp [St.renew,St.root]
 have h2:(k == k')=false:=by simp;exact fun e=>h e.symm
 rw [if_neg h]
 simp only [St.renew,St.root,List.find?_cons,h2]
 split
 rename_i hc
 rw [nJ kl k' hc]
 rfl
 rename_i hc
 have Cf:kl.contains k'=false:=by simpa using hc
 rw [tE kl k' Cf]
 have:=St.jl (fun pl=>kl.contains pl.k) (fun pl=>kl.contains pl.k) st k'
 simp only [St.root] at this
 exact this
section
variable {P:Program} {w0:World} {g0:Gh} {st:St} {a:Act} {w w':World} {g g':Gh}
theorem lE.kill' {kl:List Nat} {k' q:Nat} {c:C} (h:nw w g w' g' (fun k=>kl.contains k=false)) (hk:kl.contains k'=false) (hr:lE w g k' q c):lE w' g' k' q (c.kill fun pl=>kl.contains pl.k):=by
 cases c with
 | ro d=>exact hr.mono h hk trivial
 | own d=>exact hr.mono h hk trivial
 | ref pl=>
  simp only [C.kill]
  by_cases e:kl.contains pl.k=true
  ·rw [if_pos e]
   trivial
  ·rw [if_neg e]
   exact hr.mono h hk (show kl.contains pl.k=false by simpa using e)
 | dead=>trivial
theorem Rel.renew {kl:List Nat} {k:Nat} {r:Rt} (h:Rel w0 g0 st a w g) (LH:kl.contains k=true) (hs:nw w g w' g' (fun k=>kl.contains k=false)) (hk:lF w0 g0 w' g')
  (hc:∀ (q:Nat) c,r.row[q]? = some c→lE w' g' k q c) (hm:r.mem=false):Rel w0 g0 (st.renew kl k r) a w' g':=by
 refine h.change (pr:=fun pl=>kl.contains pl.k) (pp:=fun pl=>kl.contains pl.k) ⟨hs.ro,fun pl hp=> ?_,fun pl hp=> ?_⟩ rfl ⟨fun k' r' hk' q c hq=> ?_,fun k' r' hk' hm'=> ?_⟩ hk
 rw [hs.cv pl.k hp]
 rw [hs.ad pl.k hp]
 rw [St.yz] at hk'
 split at hk'
 rename_i e
 simp only [Option.some.injEq] at hk'
 subst hk';subst e
 exact hc q c hq
 split at hk'
 cases hk'
 rename_i e1 e
 rw [Option.map_eq_some_iff] at hk'
 obtain ⟨r1,h1,rfl⟩:=hk'
 simp only [Rt.kill,List.getElem?_map,Option.map_eq_some_iff] at hq
 obtain ⟨c1,h2,rfl⟩:=hq
 exact (h.rt.cell k' r1 h1 q c1 h2).kill' hs (by simpa using e)
 rw [St.yz] at hk'
 split at hk'
 simp only [Option.some.injEq] at hk'
 subst hk'
 rw [hm] at hm'
 cases hm'
 split at hk'
 cases hk'
 rename_i e1 e
 have e':kl.contains k'=false:=by simpa using e
 rw [Option.map_eq_some_iff] at hk'
 obtain ⟨r1,h1,rfl⟩:=hk'
 obtain ⟨a1,⟨cs,ty,a2⟩,a3⟩:=h.rt.mem k' r1 h1 hm'
 have hs':=hs.own k' e' (g.ad k' []).1 (by rw [a1];rfl)
 rw [hs.ad k' e',hs.cv k' e']
 refine ⟨by rw [hs'.1];exact a1,⟨cs,ty,by rw [hs'.2];exact a2⟩,fun q hq=> ?_⟩
 rw [bg,iP hs'.2]
 exact a3 q (by simpa [Rt.kill] using hq)
theorem yA {pl:Pl} {u:Value} (h:u=g.cv pl.k pl.p pl.q) (h1:u.oneCell'=true):dy w g (.one (.c (.ref pl))) u:=
 .one _ _ (.c (.ref pl) u (show fO w g (.ref pl) u from ⟨h,h1⟩))
def Yc:D→Value→Prop
 | .v x,u=>u=x∧plain x=true
 | .sl _ [],u=>u= .slice none 0 0
 | .hole,_=>True
 | _,_=>False
theorem Rel.slice (hR:Rel w0 g0 st a w g) {k:Nat} (hkp:k < 1000000) {cells:Array Value} {e:TypeId} {sz n c:Nat} {ds:List D} (hn:ds.length=n) (hm:n ≤ most) (hnc:n ≤ c) (uA:c ≤ 9223372036854775807)
  (hfit:c * sz ≤ cells.size) (hrow:∀ d ∈ ds,d.row.length=sz) (hc:∀ (i:Nat) d,ds[i]? = some d→∀ (j:Nat) c' u,d.row[j]? = some c'→cells[i * sz + j]? = some u→Yc c' u):
  ∃ g',Rel w0 g0 (st.renew [k] k ⟨false,[.own (.sl sz ds)]⟩) a (w.alloc (.cells cells e)) g'∧g'.cv k [] 0= .slice (some ⟨w.heap.size,0,none⟩) n c∧nw w g (w.alloc (.cells cells e)) g' (· ≠ k):=by
 let g':Gh:=
  {o:=fun b=>if b=w.heap.size then .cQ k [] 0 else g.o b
   ad:=fun k'=>if k'=k then fun p=>match p with| [(_,i)]=>(w.heap.size,i * sz)|_=>(0,0) else g.ad k'
   cv:=fun k'=>if k'=k then fun p q=>match p with| [(_,i)]=>cells.getD (i * sz + q) undef|_=> .slice (some ⟨w.heap.size,0,none⟩) n c else g.cv k' }
 have ho:∀ b,b ≠ w.heap.size→g'.o b=g.o b:=fun b hb=>if_neg hb
 have Ej:∀ k',([k]:List Nat).contains k'=false→k' ≠ k:=fun k' h e=>by subst e;simp at h
 have hS0:nw w g (w.alloc (.cells cells e)) g' (· ≠ k):=nw.vf hR ho (fun k' hk'=>if_neg hk') (fun k' hk'=>if_neg hk')
 have hS:nw w g (w.alloc (.cells cells e)) g' (fun k'=>([k]:List Nat).contains k'=false):=⟨hS0.ro,fun k' hk'=>hS0.own k' (Ej k' hk'),fun k' hk'=>hS0.ad k' (Ej k' hk'),fun k' hk'=>hS0.cv k' (Ej k' hk')⟩
 have LU:g'.cv k [] 0= .slice (some ⟨w.heap.size,0,none⟩) n c:=by simp [g']
 have fL:∀ i j,g'.cv k [(0,i)] j=cells.getD (i * sz + j) undef:=fun i j=>by simp [g']
 have hin:∀ i j,i < n→j < sz→i * sz + j < cells.size:=fun i j hi hj=>by
  have h1:(i + 1) * sz ≤ c * sz:=Nat.mul_le_mul_right _ (by omega)
  rw [Nat.add_mul] at h1
  omega
 have yy:cm ≠ k:=by simp only [cm];omega
 have N6:dN ≠ k:=by simp only [dN];omega
 refine ⟨g',hR.renew (by simp) hS (hR.ks.vf ho (by simp [g']) (fun q=>by simp only [g',if_neg yy]) (by simp only [g',if_neg N6]) (fun e=>by simp [g'] at e)) (fun q c' hq=> ?_) rfl,LU,hS0⟩
 cases q with
 | succ q=>simp at hq
 | zero=>
  simp only [List.getElem?_cons_zero,Option.some.injEq] at hq
  subst hq
  refine Ow.sl [] 0 sz ds w.heap.size 0 n c cells e LU hn hm hnc uA (by simp [g']) (heap_alloc_new w _) (by omega) hrow (fun i hi=>by simp [g']) (fun i j hi hj=> ?_) (fun i d hd j c1 hj=> ?_)
  rw [List.nil_append,fL,Nat.zero_add]
  have h1:(w.alloc (.cells cells e)).cell? ⟨w.heap.size,i * sz + j,none⟩=cells[i * sz + j]? :=World.cell?_alloc_new w cells e _
  rw [h1,Array.getD_eq_getD_getElem?,Array.getElem?_eq_getElem (hin i j hi hj)]
  rfl
  have hi:i < n:=by rw [← hn];exact (List.getElem?_eq_some_iff.1 hd).1
  have hj':j < sz:=by rw [← hrow d (List.mem_of_getElem? hd)];exact (List.getElem?_eq_some_iff.1 hj).1
  have hlt:=hin i j hi hj'
  have hu:cells[i * sz + j]? = some cells[i * sz + j]:=Array.getElem?_eq_getElem hlt
  have h1:=hc i d hd j c1 _ hj hu
  have h2:g'.cv k [(0,i)] j=cells[i * sz + j]:=by
   rw [fL,Array.getD_eq_getD_getElem?,hu]
   rfl
  rw [List.nil_append]
  cases c1 with
  | v x=>exact .v _ _ x h1.2 (by rw [h2];exact h1.1)
  | sl s l=>cases l with
   | nil=>exact .nil _ _ s (by rw [h2];exact h1)
   | cons=>exact h1.elim
  | hole=>exact .hole _ _
  | st _=>exact h1.elim
theorem Rel.drew (hR:Rel w0 g0 st a w g):Rel w0 g0 st a w.drew g:=by
 have h:=hR.change (bD:=st) (pr:=fun _=>false) (pp:=fun _=>false) (w':=w.drew) (g':=g) ⟨fun b hb=>⟨hb,rfl⟩,fun _ _=>rfl,fun _ _=>rfl⟩ ?_ ?_ ?_
 exact h
 have h1:∀ c:C,c.kill (fun _=>false)=c:=fun c=>by cases c <;> rfl
 have h2:∀ t:TV,t.kill (fun _=>false) (fun _=>false)=t:=fun t=>by
  cases t with
  | c x=>simp [TV.kill,h1]
  | agg cs=>simp only [TV.kill,TV.agg.injEq];rw [List.map_congr_left (fun c _=>h1 c)];simp
  | CV oC=>simp [TV.kill]
  | o3 oC=>simp [TV.kill]
  | cut pl sz lo hi=>simp [TV.kill]
  | _=>rfl
 have h3:∀ t:TS,t.kill (fun _=>false) (fun _=>false)=t:=fun t=>by
  cases t with
  | one t=>simp [TS.kill,h2]
  | lp ts=>simp only [TS.kill,TS.lp.injEq];rw [List.map_congr_left (fun c _=>h2 c)];simp
  | fn f ts=>simp only [TS.kill,TS.fn.injEq,true_and];rw [List.map_congr_left (fun c _=>h2 c)];simp
 rw [List.map_congr_left (fun t _=>h3 t)]
 simp
 exact Rk.mono (w:=w) (w':=w.drew) (g:=g) (g':=g) (keep:=fun _=>True) ⟨fun b hb=>⟨hb,rfl⟩,fun _ _ b _=>⟨rfl,rfl⟩,fun _ _=>rfl,fun _ _=>rfl⟩ hR.rt (fun k r _=>⟨trivial,fun c _=>by cases c <;> trivial⟩)
 exact ⟨hR.ks.os,hR.ks.tape,hR.ks.output,hR.ks.size,hR.ks.block,hR.ks.fresh,hR.ks.old,hR.ks.uB,hR.ks.ie⟩
variable {o:Oper} {Q:St→Prop} {x y:Operand} {t e:TypeId}
theorem fX.make (ho:o.op= .makeSlice t x y) {k:Nat} (hd:o.dst=some k) {n:Int} (hx:T.cy 0 st x=some (I n)) (hy:T.cy 0 st y=some (I n)) (hu:P.underlying t=some (.slice e))
  {i:TypeInfo} {z:Value} {sz bytes:Nat} (hi:P.info? e=some i) (hz:i.zero=some z) (hsz:i.size=sz) (hby:i.bytes=bytes) {row:List D} (hrow:xR P 6 e=some row)
  (hv:z.cells.toList=row.map zeroV) (hok:row.all r9=true) (hrl:row.length=sz) {d:D} (SB:d.row=row) (h0:0 ≤ n) (h1:n * bytes ≤ 140737488355328) (h2:n ≤ 140737488355328)
  (hq:Q ((st.renew [k] k ⟨false,[.own (.sl sz (List.replicate n.toNat d))]⟩).put (some k) (.one (.c (.ref ⟨k,[],0⟩))))) (hkp:k < 1000000:=by decide):fX P w0 g0 o st Q:=fun a w g hR K Q' hK=>by
 subst hsz
 subst hby
 obtain ⟨m,rfl⟩:=Int.eq_ofNat_of_zero_le h0
 rw [Int.toNat_natCast] at hq
 have hzs:z.cells.size=i.size:=by
  have:=congrArg List.length hv
  simp only [List.length_map,hrl] at this
  simpa using this
 have hm2:m ≤ most:=by simp only [most];omega
 have hw1:IntKind.i64.wrap (m:Int)=m:=wrap_i64 (by omega) (by omega)
 obtain ⟨g',hU,LU,_⟩:=hR.slice (k:=k) hkp (cells:=(Array.range (m * i.size)).map fun j=>z.cells[j % z.cells.size]!) (e:=e) (sz:=i.size) (n:=m) (c:=m) (ds:=List.replicate m d)
  (by simp) hm2 (Nat.le_refl _) (by simp only [most] at hm2;omega) (by simp) (fun d' pH=>by rw [List.eq_of_mem_replicate pH,SB];exact hrl) (fun i' d' pH j c' u hj hu=>by
   rw [List.getElem?_replicate] at pH
   split at pH
   simp only [Option.some.injEq] at pH
   subst pH
   rw [SB] at hj
   have hjl:j < i.size:=by rw [← hrl];exact (List.getElem?_eq_some_iff.1 hj).1
   rw [Array.getElem?_map,Option.map_eq_some_iff] at hu
   obtain ⟨t',ht',rfl⟩:=hu
   have Ih:t'=i' * i.size + j:=by
    rw [Array.getElem?_range] at ht'
    split at ht'
    simpa using ht'.symm
    cases ht'
   subst Ih
   have hmod:(i' * i.size + j) % z.cells.size=j:=by
    rw [hzs,Nat.add_comm,Nat.add_mul_mod_self_right]
    exact Nat.mod_eq_of_lt hjl
   rw [hmod]
   have hzj:z.cells[j]! = zeroV c':=by
    have:z.cells.toList[j]? = some (zeroV c'):=by rw [hv,List.getElem?_map,hj];rfl
    rw [Array.getElem?_toList] at this
    simp [getElem!_def,this]
   rw [hzj]
   have Y3:=List.all_eq_true.1 hok c' (List.mem_of_getElem? hj)
   cases c' with
   | v y=>exact ⟨rfl,Y3⟩
   | sl s l=>cases l with
    | nil=>exact rfl
    | cons=>cases Y3
   | _=>cases Y3
   cases pH)
 unfold Oper.wp
 have sH:(zeroValue e).run P w= .ok z w:=by simp [zeroValue,typeInfo,hi,hz]
 have hrun:(execOp a.eval o).run P w= .ok (.value (.slice (some ⟨w.heap.size,0,none⟩) m m)) (w.alloc (.cells ((Array.range (m * i.size)).map fun j=>z.cells[j % z.cells.size]!) e)):=by
  have hb1:¬ ((i.bytes:Int) * m > 281474976710656):=by rw [Int.mul_comm];omega
  have hneg:¬ ((m:Int) < 0):=by omega
  by_cases Y4:m * i.size=0
  have Y5:((Array.range (m * i.size)).map fun j=>z.cells[j % z.cells.size]!)=(Array.range (m * i.size)).map fun j=>(#[]:Array Value)[j % (#[]:Array Value).size]! :=by
   rw [Y4]
   simp
  rw [Y5]
  simp [execOp,ho,hR.val hx,hR.val hy,Instr.makeSlice,run_underlying hu,asInt,asIntOf,typeInfo,hi,hw1,hb1,hneg,sizeOf,Y4,newRow]
  simp [execOp,ho,hR.val hx,hR.val hy,Instr.makeSlice,run_underlying hu,asInt,asIntOf,typeInfo,hi,hw1,hb1,hneg,sizeOf,Y4,newRow,sH]
 rw [hrun]
 refine hK _ _ _ g' hq ?_
 rw [hd]
 exact hU.put (yA LU.symm rfl) (some k)
end
end Go.Proofs.YtdliggkohdnipaaGreat.T
