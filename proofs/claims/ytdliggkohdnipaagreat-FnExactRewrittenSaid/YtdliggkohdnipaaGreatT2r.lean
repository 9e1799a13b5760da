import Derived.Test.YtdliggkohdnipaaGreatT1r
import Derived.Great.FillDense
import Derived.Deep.Quiet
import Derived.Laws.BytesArg
import Derived.ChangeArms
import Derived.Below
set_option linter.unusedVariables false
set_option linter.unusedSimpArgs false
namespace Go.Proofs.YtdliggkohdnipaaGreat.T
open Go
section
variable {P:Program} {w0:World} {g0:Gh} {st:St} {a:Act} {w w':World} {g g':Gh}
def Gh.app (g:Gh) (k k1:Nat) (src:Option Nat) (n sz b' off':Nat) (v':Value) (news:List Value):Gh where
 o b:=if b=b' then .cQ k [] 0 else
  match g.o b with
  | .cQ k' p q=>if k'=k1 then (match p with|(0,i) :: r=> .cQ k ((0,i) :: r) q|_=> .ro) else if some k'=src then (match p with|(0,i) :: r=> .cQ k ((0,n + i) :: r) q|_=> .ro) else .cQ k' p q
  | t=>t
 ad k':=if k'=k then fun p=>match p with| []=>(0,0)| [(_,i)]=>(b',off' + i * sz)|(_,i) :: r=>if i < n then g.ad k1 ((0,i) :: r) else g.ad (src.getD 0) ((0,i - n) :: r) else g.ad k'
 cv k':=if k'=k then fun p q=>match p with| []=>v'|(_,i) :: r=>if i < n then g.cv k1 ((0,i) :: r) q else match src with|some k2=>g.cv k2 ((0,i - n) :: r) q|none=>news.getD ((i - n) * sz + q) undef else g.cv k'
def Rl (w:World) (g:Gh) (src:Option Nat) (i j:Nat) (u:Value) (c:D):Prop:=
 match src with
 | some k2=>g.cv k2 [(0,i)] j=u∧Ow w g k2 [(0,i)] j c
 | none=>c= .v u∧plain u=true
theorem Rel.append (hR:Rel w0 g0 st a w g) {k k1:Nat} (hkp:k < 1000000) {src:Option Nat} {r1:Rt} (hk1:st.root k1=some r1) (Yd:r1.mem=false) {sz:Nat} {ds ns:List D} (Ii:r1.row=[.own (.sl sz ds)])
  (eT:∀ k2,src=some k2→k2 ≠ k1) {v':Value} {xG:Option Nat} {olds news:List Value} (hA:LS w w' v' xG ds.length ns.length sz olds news) (PU:ds.length + ns.length ≤ most)
  (hob:∀ b,xG=some b→g.o b= .cQ k1 [] 0) (N7:olds.length=ds.length * sz) (hold:∀ i j,i < ds.length→j < sz→olds[i * sz + j]? = some (g.cv k1 [(0,i)] j))
  (Ya:news.length=ns.length * sz) (PV:∀ d ∈ ns,d.row.length=sz) (hnew:∀ (i:Nat) d,ns[i]? = some d→∀ (j:Nat) c,d.row[j]? = some c→Rl w g src i j (news.getD (i * sz + j) undef) c)
  (hv:g.cv k1 [] 0= .slice none 0 0 ∨ True):
  ∃ g',Rel w0 g0 (st.renew (k :: k1 :: src.toList) k ⟨false,[.own (.sl sz (ds ++ ns))]⟩) a w' g'∧g'.cv k [] 0=v':=by
 have yy:cm ≠ k:=by simp only [cm];omega
 have N6:dN ≠ k:=by simp only [dN];omega
 have hO1:Ow w g k1 [] 0 (.sl sz ds):=hR.rt.cell k1 r1 hk1 0 (.own (.sl sz ds)) (by rw [Ii];rfl)
 rcases hA.res with ⟨rfl,hn0,hm0,rfl⟩|⟨b',off',c',cs',e',hv',hcap,hcmax,hb',hfit',xF,PT,JG,PW⟩
 -- nothing at all
 have sI:ds=[]:=List.eq_nil_of_length_eq_zero hn0
 have hns0:ns=[]:=List.eq_nil_of_length_eq_zero hm0
 subst sI;subst hns0
 let g':Gh:={ g with cv:=fun k'=>if k'=k then fun _ _=> .slice none 0 0 else g.cv k' }
 have hS:nw w' g w' g' (fun k'=>(k :: k1 :: src.toList).contains k'=false):=⟨fun b hb=>⟨hb,rfl⟩,fun _ _ b _=>⟨rfl,rfl⟩,fun _ _=>rfl,fun k' hk'=>if_neg (fun e=>by subst e;simp at hk')⟩
 refine ⟨g',hR.renew (by simp) hS ⟨hR.ks.os,hR.ks.tape,hR.ks.output,hR.ks.size,hR.ks.block,hR.ks.fresh,hR.ks.old,⟨fun q=>(by simp only [g',if_neg yy];exact hR.ks.uB.1 q),hR.ks.uB.2⟩,hR.ks.ie⟩ (fun q c hq=> ?_) rfl,by simp [g']⟩
 cases q with
 | succ q=>simp at hq
 | zero=>
  simp only [List.append_nil,List.getElem?_cons_zero,Option.some.injEq] at hq
  subst hq
  exact Ow.nil [] 0 sz (by simp [g'])
 have LH:∀ k',(k :: k1 :: src.toList).contains k'=false→k' ≠ k∧k' ≠ k1∧some k' ≠ src:=fun k' h=>by
  refine ⟨fun e=> ?_,fun e=> ?_,fun e=> ?_⟩
  subst e;simp at h
  subst e;simp at h
  subst e;simp at h
 have SR:b'=w.heap.size ∨ (xG=some b'∧b' < w.heap.size):=by
  rcases JG with ⟨h1,h2⟩|⟨h1,h2⟩
  refine .inr ⟨h1, ?_⟩
  have:=(Array.getElem?_eq_some_iff.1 hb').1
  omega
  exact .inl h1
 have Ye:g.o b'= .outer ∨ g.o b'= .cQ k1 [] 0:=by
  rcases SR with rfl|⟨h1,_⟩
  exact .inl (hR.ks.fresh _ (Nat.le_refl _))
  exact .inr (hob b' h1)
 have hsize:w.heap.size ≤ w'.heap.size:=by rcases JG with ⟨_,h⟩|⟨_,h⟩ <;> omega
 have hlt:∀ b,g.o b ≠ .outer→b < w.heap.size:=fun b hb=>by
  rcases Nat.lt_or_ge b w.heap.size with h|h
  exact h
  exact absurd (hR.ks.fresh b h) hb
 have qc:∀ b,g.o b ≠ .outer→g.o b ≠ .cQ k1 [] 0→w'.heap[b]? = w.heap[b]? ∧b ≠ b':=fun b h1 h2=>by
  have:b ≠ b':=fun e=>by subst e;rcases Ye with h|h <;> contradiction
  exact ⟨PW b (hlt b h1) this,this⟩
 generalize hg':g.app k k1 src ds.length sz b' off' v' news=g'
 have N8:∀ b k' p q,g.o b= .cQ k' p q→k' ≠ k1→some k' ≠ src→g'.o b=g.o b:=fun b k' p q h1 h2 h3=>by
  have:=(qc b (by rw [h1];simp) (by rw [h1];simp [h2])).2
  subst hg'
  simp [Gh.app,this,h1,h2,h3]
 have ho2:∀ b,(∀ k' p q,g.o b ≠ .cQ k' p q)→g.o b ≠ .outer→g'.o b=g.o b:=fun b h1 h2=>by
  have:=(qc b h2 (h1 _ _ _)).2
  subst hg'
  simp only [Gh.app,if_neg this]
 have hS:nw w g w' g' (fun k'=>(k :: k1 :: src.toList).contains k'=false):=by
  refine ⟨fun b hb=> ?_,fun k' hk' b hb=> ?_,fun k' hk'=> ?_,fun k' hk'=> ?_⟩
  rw [ho2 b (fun _ _ _=>by rw [hb];simp) (by rw [hb];simp)]
  exact ⟨hb,(qc b (by rw [hb];simp) (by rw [hb];simp)).1⟩
  obtain ⟨n1,n2,n3⟩:=LH k' hk'
  cases ht:g.o b with
  | ro=>rw [ht] at hb;cases hb
  | outer=>rw [ht] at hb;cases hb
  | box k2=>
   rw [← ht]
   exact ⟨ho2 b (fun _ _ _=>by rw [ht];simp) (by rw [ht];simp),(qc b (by rw [ht];simp) (by rw [ht];simp)).1⟩
  | cQ k2 p q=>
   rw [ht] at hb
   have e:k2=k':=by simpa [Tag.gu] using hb
   subst e
   rw [← ht]
   exact ⟨N8 b _ p q ht n2 n3,(qc b (by rw [ht];simp) (by rw [ht];simp [n2])).1⟩
  subst hg';simp only [Gh.app];exact if_neg (LH k' hk').1
  subst hg';simp only [Gh.app];exact if_neg (LH k' hk').1
 have hK:lF w0 g0 w' g':=by
  refine ⟨hA.os.trans hR.ks.os,hA.tape.trans hR.ks.tape,hA.output.trans hR.ks.output,Nat.le_trans hR.ks.size hsize,fun b hb hx=> ?_,fun b hb=> ?_,fun b hb hx=> ?_,⟨fun q=> ?_, ?_⟩,fun b hb=> ?_⟩
  obtain ⟨h1,h2⟩:=hR.ks.block b hb hx
  have hlt':b < w.heap.size:=by have:=hR.ks.size;omega
  have hne:b ≠ b':=fun e=>by
   subst e
   rcases Ye with h|h
   rcases SR with e|⟨h3,_⟩
   omega
   rw [hob b h3] at h;cases h
   rw [h2] at h;rcases hx with hx|hx <;> rw [hx] at h <;> cases h
  refine ⟨(PW b hlt' hne).trans h1, ?_⟩
  rw [← h2] at hx ⊢
  subst hg'
  simp only [Gh.app,if_neg hne]
  rcases hx with hx|hx <;> simp [hx]
  have hne:b ≠ b':=by
   rcases SR with rfl|⟨_,h⟩
   rcases JG with ⟨h1,h2⟩|⟨h1,h2⟩
   have:=(Array.getElem?_eq_some_iff.1 hb').1
   omega
   omega
   omega
  have:=hR.ks.fresh b (by omega)
  subst hg'
  simp [Gh.app,hne,this]
  have hx':b ≠ b'∧g.o b= .outer:=by
   subst hg'
   simp only [Gh.app] at hx
   split at hx
   cases hx
   rename_i hne
   refine ⟨hne, ?_⟩
   split at hx
   split at hx
   split at hx <;> cases hx
   split at hx
   split at hx <;> cases hx
   cases hx
   exact hx
  have hlt':b < w.heap.size:=by
   rcases JG with ⟨_,h2⟩|⟨h1,h2⟩ <;> omega
  exact hR.ks.old b hlt' hx'.2
  subst hg';simp only [Gh.app,if_neg yy];exact hR.ks.uB.1 q
  subst hg';simp only [Gh.app,if_neg N6];exact hR.ks.uB.2
  subst hg'
  simp only [Gh.app] at hb
  split at hb
  cases hb
  split at hb
  split at hb
  split at hb <;> cases hb
  split at hb
  split at hb <;> cases hb
  cases hb
  exact hR.ks.ie b hb
 have LU:g'.cv k [] 0=v':=by subst hg';simp [Gh.app]
 refine ⟨g',hR.renew (by simp) hS hK (fun q c hq=> ?_) rfl,LU⟩
 cases q with
 | succ q=>simp at hq
 | zero=>
  simp only [List.getElem?_cons_zero,Option.some.injEq] at hq
  subst hq
  have Y6:∀ d ∈ ds,d.row.length=sz:=by
   cases hO1 with
   | nil=>intro d hd;cases hd
   | sl _ _ _ _ b off n c cs ty hc hn hm hnc uA ho hb hfit hro had hcell hel=>exact hro
  have hsub1:∀ i (d:D),ds[i]? = some d→∀ (j:Nat) c,d.row[j]? = some c→Ow w g k1 [(0,i)] j c:=by
   intro i d hd j c hj
   exact (hO1.row hd).own j c hj
  refine Ow.sl [] 0 sz (ds ++ ns) b' off' (ds.length + ns.length) c' cs' e' (by rw [LU,hv']) (by simp) PU hcap hcmax (by subst hg';simp [Gh.app]) hb' hfit' (fun d hd=> ?_) (fun i hi=> ?_) (fun i j hi hj=> ?_) (fun i d hd j c hj=> ?_)
  rcases List.mem_append.1 hd with h|h
  exact Y6 d h
  exact PV d h
  subst hg';simp [Gh.app]
  by_cases hin:i < ds.length
  have h1:i * sz + j < ds.length * sz:=by
   have:(i + 1) * sz ≤ ds.length * sz:=Nat.mul_le_mul_right _ hin
   rw [Nat.add_mul] at this
   omega
  rw [Nat.add_assoc,xF _ h1,hold i j hin hj]
  subst hg'
  simp [Gh.app,hin]
  have h2:(i - ds.length) * sz + j < ns.length * sz:=by
   have:(i - ds.length + 1) * sz ≤ ns.length * sz:=Nat.mul_le_mul_right _ (by omega)
   rw [Nat.add_mul] at this
   omega
  have h3:off' + i * sz + j=off' + ds.length * sz + ((i - ds.length) * sz + j):=by
   have:i * sz=ds.length * sz + (i - ds.length) * sz:=by rw [← Nat.add_mul];congr 1;omega
   omega
  rw [h3,PT _ h2]
  have hnd:ns[i - ds.length]? = some ns[i - ds.length]:=List.getElem?_eq_getElem (by omega)
  have hjl:j < (ns[i - ds.length]).row.length:=by rw [PV _ (List.mem_of_getElem? hnd)];exact hj
  have h4:=hnew _ _ hnd j _ (List.getElem?_eq_getElem hjl)
  have h5:news[(i - ds.length) * sz + j]? = some (news.getD ((i - ds.length) * sz + j) undef):=by
   rw [List.getD,List.getElem?_eq_getElem (by omega)]
   rfl
  rw [h5]
  subst hg'
  cases src with
  | none=>simp [Gh.app,hin]
  | some k2=>
   simp only [Rl] at h4
   simp [Gh.app,hin,h4.1]
  rw [List.nil_append]
  by_cases hin:i < ds.length
  rw [List.getElem?_append_left hin] at hd
  have hO:=hsub1 i d hd j c hj
  refine Ow.move hO ⟨?_,fun i' r q'=> ?_,fun i' r=> ?_,fun b hb=> ?_,fun b i' r q' hb=> ?_⟩
  subst hg';simp [Gh.app,hin]
  subst hg';simp [Gh.app,hin]
  subst hg';simp [Gh.app,hin]
  have h1:=qc b (by rw [hb];simp) (by rw [hb];simp)
  refine ⟨?_,h1.1⟩
  subst hg'
  simp [Gh.app,h1.2,hb]
  have h1:=qc b (by rw [hb];simp) (by rw [hb];simp)
  refine ⟨?_,h1.1⟩
  subst hg'
  simp [Gh.app,h1.2,hb]
  rw [List.getElem?_append_right (by omega)] at hd
  have h4:=hnew _ d hd j c hj
  have hidx:ds.length + (i - ds.length)=i:=by omega
  cases src with
  | none=>
   simp only [Rl] at h4
   obtain ⟨rfl,hp⟩:=h4
   refine .v _ _ _ hp ?_
   subst hg'
   simp [Gh.app,hin]
  | some k2=>
   simp only [Rl] at h4
   have hk2:k2 ≠ k1:=eT k2 rfl
   refine Ow.move h4.2 ⟨?_,fun i' r q'=> ?_,fun i' r=> ?_,fun b hb=> ?_,fun b i' r q' hb=> ?_⟩
   subst hg';simp [Gh.app,hin]
   subst hg';simp [Gh.app,hin]
   subst hg';simp [Gh.app,hin]
   have h1:=qc b (by rw [hb];simp) (by rw [hb];simp)
   refine ⟨?_,h1.1⟩
   subst hg'
   simp [Gh.app,h1.2,hb,hk2,hidx]
   have h1:=qc b (by rw [hb];simp) (by rw [hb];simp)
   refine ⟨?_,h1.1⟩
   subst hg'
   simp [Gh.app,h1.2,hb,hk2,hidx]
end
def ij (w:World):Nat→Tag:=fun b=>if b < w.heap.size then .ro else .outer
inductive Whole:D→Prop
 | v (x:Value):Whole (.v x)
 | sl (sz:Nat) (ds:List D) (h:∀ d ∈ ds,∀ c ∈ d.row,Whole c):Whole (.sl sz ds)
theorem jL {w:World} {b:Nat} {x:Obj} (h:w.heap[b]? = some x):b < w.heap.size:=(Array.getElem?_eq_some_iff.1 h).1
theorem Ow.Y7 {w:World} {g:Gh} {k:Nat} {p:List (Nat×Nat)} {q:Nat} {d:D} (h:Ow w g k p q d) (hw:Whole d) {o:Nat→Tag} (hro:∀ b,(g.o b).gu = some k→b < w.heap.size→o b= .ro):Ro w o d (g.cv k p q):=by
 induction h with
 | v p q x hx hc=>rw [hc];exact .v x hx
 | hole p q=>cases hw
 | nil p q sz hc=>rw [hc];exact .nil sz none 0
 | sl p q sz ds b off n c cs e hc hn hm hnc uA ho hb hfit hrow had hcell hel ih=>
  rw [hc]
  cases hw with
  | sl _ _ hws=>
   have hlt:=jL hb
   by_cases hsz:sz=0
   subst hsz
   refine .sl 0 ds b off n c (fun _=>undef) hn hm hnc (hro b (by rw [ho];rfl) hlt) hrow (fun t ht=>by simp at ht) (fun i d hd j c' hj=> ?_)
   have:=hrow d (List.mem_of_getElem? hd)
   have hj':=(List.getElem?_eq_some_iff.1 hj).1
   omega
   refine .sl sz ds b off n c (fun t=>g.cv k (p ++ [(q,t / sz)]) (t % sz)) hn hm hnc (hro b (by rw [ho];rfl) hlt) hrow (fun t ht=> ?_) (fun i d hd j c' hj=> ?_)
   have h1:t / sz < n:=Nat.div_lt_of_lt_mul (by rw [Nat.mul_comm];exact ht)
   have h2:t % sz < sz:=Nat.mod_lt _ (by omega)
   have h3:=hcell _ _ h1 h2
   have h4:off + t / sz * sz + t % sz=off + t:=by
    rw [Nat.add_assoc]
    congr 1
    rw [Nat.mul_comm]
    exact Nat.div_add_mod t sz
   rw [h4] at h3
   exact h3
   have hj':j < sz:=by rw [← hrow d (List.mem_of_getElem? hd)];exact (List.getElem?_eq_some_iff.1 hj).1
   have h1:(i * sz + j) / sz=i:=by
    rw [Nat.add_comm,Nat.add_mul_div_right _ _ (by omega),Nat.div_eq_of_lt hj',Nat.zero_add]
   have h2:(i * sz + j) % sz=j:=by
    rw [Nat.add_comm,Nat.add_mul_mod_self_right,Nat.mod_eq_of_lt hj']
   simp only [h1,h2]
   exact ih i d hd j c' hj (hws d (List.mem_of_getElem? hd) c' (List.mem_of_getElem? hj))
theorem Ow.ro {w:World} {g:Gh} {k:Nat} {p:List (Nat×Nat)} {q:Nat} {d:D} (h:Ow w g k p q d) (hw:Whole d):Ro w (ij w) d (g.cv k p q):=h.Y7 hw fun b _ hb=>by simp [ij,hb]
theorem Ro.all {w:World} {o:Nat→Tag} {d:D} {v:Value} (h:Ro w o d v) (ho:∀ b,o b= .ro→b < w.heap.size):Ro w (ij w) d v:=
 Ro.mono (w':=w) (fun b hb=>⟨by simp [ij,ho b hb],rfl⟩) h
def snapC (st:St):C→Option C
 | .ro d=>some (.ro d)
 | .ref pl=>match st.cellAt pl with
  | some (.own d)=>some (.ro d)
  | some (.ro d)=>some (.ro d)
  | _=>none
 | _=>none
def Wg:C→Bool
 | .ro _=>true
 | _=>false
def SS:TV→Bool
 | .c x=>Wg x
 | .agg cs=>cs.all Wg
 | _=>false
inductive xH (st:St):TS→TS→Prop
 | ro (d:D):xH st (.one (.c (.ro d))) (.one (.c (.ro d)))
 | ref (pl:Pl) (d:D) (h:st.cellAt pl=some (.own d)) (hw:Whole d):xH st (.one (.c (.ref pl))) (.one (.c (.ro d)))
 | agg (cs cs':List C) (hl:cs'.length=cs.length)
   (h:∀ (j:Nat) c c',cs[j]? = some c→cs'[j]? = some c'→(∃ d,c= .ro d∧c'= .ro d) ∨ ∃ pl d,c= .ref pl∧c'= .ro d∧st.cellAt pl=some (.own d)∧Whole d):xH st (.one (.agg cs)) (.one (.agg cs'))
 | bV (ds:List D):xH st (.one (.bV ds)) (.one (.bV ds))
 | ptr (pl:Pl) (ds:List D) (hm:st.gv pl=true) (h:∀ (j:Nat) d,ds[j]? = some d→(st.cellAt ⟨pl.k,pl.p,pl.q + j⟩=some (.own d)∧Whole d) ∨ st.cellAt ⟨pl.k,pl.p,pl.q + j⟩=some (.ro d))
   (h0:0 < ds.length):xH st (.one (.ptr pl)) (.one (.bV ds))
 | fn (f:FuncId):xH st (.fn f []) (.fn f [])
 | Wh (f:FuncId) (fk:List TV) (h:fk.all SS=true):xH st (.fn f fk) (.fn f fk)
 | fnP (f:FuncId) (fk LV:List TV) (hl:LV.length=fk.length)
   (h:∀ (j:Nat) c c',fk[j]? = some c→LV[j]? = some c'→(SS c=true∧c'=c) ∨ ∃ pl ds,c= .ptr pl∧c'= .bV ds∧st.gv pl=true∧0 < ds.length∧∀ (i:Nat) d,ds[i]? = some d→(st.cellAt ⟨pl.k,pl.p,pl.q + i⟩=some (.own d)∧Whole d) ∨ st.cellAt ⟨pl.k,pl.p,pl.q + i⟩=some (.ro d)):
   xH st (.fn f fk) (.fn f LV)
section
variable {P:Program} {w0:World} {g0:Gh} {st:St} {a:Act} {w:World} {g:Gh}
theorem Rel.SU (hR:Rel w0 g0 st a w g):∀ b,g.o b= .ro→b < w.heap.size:=fun b hb=>by
 rcases Nat.lt_or_ge b w.heap.size with h|h
 exact h
 rw [hR.ks.fresh b h] at hb;cases hb
theorem JH {w':World} {g':Gh} {t:TV} {u:Value} (hc:SS t=true) (hro:∀ d v,Ro w g.o d v→Ro w' g'.o d v) (h:ef w g t u):ef w' g' t u:=by
 cases h with
 | c c u hv=>
  cases c with
  | ro d=>exact .c _ u (hro d u hv)
  | _=>cases hc
 | agg cs us hs hv=>
  refine .agg cs us hs fun j c u h1 h2=> ?_
  have h3:=hv j c u h1 h2
  have h4:=List.all_eq_true.1 hc c (List.mem_of_getElem? h1)
  cases c with
  | ro d=>exact hro d u h3
  | _=>cases h4
 | _=>cases hc
theorem Rel.ru (hR:Rel w0 g0 st a w g) {t t':TS} {u:Value} (hs:xH st t t') (hu:dy w g t u) (g':Gh) (hg:g'.o=ij w):dy w g' t' u:=by
 have hro:∀ d v,Ro w g.o d v→Ro w g'.o d v:=fun d v h=>by rw [hg];exact h.all hR.SU
 have hown:∀ pl d,st.cellAt pl=some (.own d)→Whole d→Ro w g'.o d (g.cv pl.k pl.p pl.q):=fun pl d h hw=>by rw [hg];exact ((hR.cellAt h).1 d rfl).ro hw
 cases hs with
 | ro d=>
  cases hu with
  | one _ _ h=>
   cases h with
   | c _ _ h=>exact .one _ _ (.c (.ro d) _ (hro d _ h))
 | ref pl d hc hw=>
  cases hu with
  | one _ _ h=>
   cases h with
   | c _ _ h=>
    have h1:u=g.cv pl.k pl.p pl.q:=h.1
    rw [h1]
    exact .one _ _ (.c (.ro d) _ (hown pl d hc hw))
 | agg cs cs' hl h=>
  cases hu with
  | one _ _ hu=>
   cases hu with
   | agg _ us hsz hv=>
    refine .one _ _ (.agg cs' us (by rw [hl];exact hsz) fun j c' u' hj SA=> ?_)
    have hj':j < cs.length:=by rw [← hl];exact (List.getElem?_eq_some_iff.1 hj).1
    have hcj:cs[j]? = some cs[j]:=List.getElem?_eq_getElem hj'
    have h1:=hv j _ u' hcj SA
    rcases h j _ c' hcj hj with ⟨d,e1,e2⟩|⟨pl,d,e1,e2,h3,h4⟩
    rw [e1] at h1
    subst e2
    exact hro d _ h1
    rw [e1] at h1
    subst e2
    have h5:u'=g.cv pl.k pl.p pl.q:=h1.1
    rw [h5]
    exact hown pl d h3 h4
 | bV ds=>
  cases hu with
  | one _ _ hu=>
   cases hu with
   | bV _ b off us ho hcell=>
    exact .one _ _ (.bV ds b off us (by rw [hg];simp [ij,hR.SU b ho]) fun j d hj=>⟨(hcell j d hj).1,hro d _ (hcell j d hj).2⟩)
 | ptr pl ds hm h h0=>
  cases hu with
  | one _ _ hu=>
   cases hu with
   | ptr _=>
    have Wi:∀ j,st.gv ⟨pl.k,pl.p,pl.q + j⟩=true:=fun j=>hm
    have key:∀ (j:Nat) d,ds[j]? = some d→w.cell? (bg (g.ad pl.k pl.p) (pl.q + j))=some (g.cv pl.k pl.p (pl.q + j))∧Ro w g'.o d (g.cv pl.k pl.p (pl.q + j))∧(g.ad pl.k pl.p).1 < w.heap.size:=fun j d hj=>by
     rcases h j d hj with ⟨h1,h2⟩|h1
     have h3:=hR.cellAt h1
     obtain ⟨cs,e,h4⟩:=(h3.2.2.2 (Wi j)).2
     exact ⟨h3.2.2.1 (Wi j),hown _ d h1 h2,jL h4⟩
     have h3:=hR.cellAt h1
     obtain ⟨cs,e,h4⟩:=(h3.2.2.2 (Wi j)).2
     exact ⟨h3.2.2.1 (Wi j),hro d _ h3.2.1,jL h4⟩
    have hlt:(g.ad pl.k pl.p).1 < w.heap.size:=(key 0 ds[0] (List.getElem?_eq_getElem h0)).2.2
    refine .one _ _ (.bV ds (g.ad pl.k pl.p).1 ((g.ad pl.k pl.p).2 + pl.q) (fun j=>g.cv pl.k pl.p (pl.q + j)) (by rw [hg];simp [ij,hlt]) fun j d hj=> ?_)
    have:=key j d hj
    refine ⟨?_,this.2.1⟩
    rw [Nat.add_assoc]
    exact this.1
 | fn f=>
  cases hu with
  | fn _ _ us hs h=>exact .fn f [] us hs fun j t u h1 _=>by simp at h1
 | Wh f fk hc=>
  cases hu with
  | fn _ _ us hs h=>exact .fn f fk us hs fun j t u h1 h2=>JH (List.all_eq_true.1 hc t (List.mem_of_getElem? h1)) hro (h j t u h1 h2)
 | fnP f fk LV hl h=>
  cases hu with
  | fn _ _ us hs hv=>
   refine .fn f LV us (by rw [hl];exact hs) fun j t' u h1 h2=> ?_
   have hj':j < fk.length:=by rw [← hl];exact (List.getElem?_eq_some_iff.1 h1).1
   have hcj:fk[j]? = some fk[j]:=List.getElem?_eq_getElem hj'
   have hvj:=hv j _ u hcj h2
   rcases h j _ t' hcj h1 with ⟨e1,e2⟩|⟨pl,ds,e1,e2,hm,h0,hcell⟩
   rw [e2]
   exact JH e1 hro hvj
   rw [e1] at hvj
   rw [e2]
   cases hvj with
   | ptr _=>
    have Wi:∀ i,st.gv ⟨pl.k,pl.p,pl.q + i⟩=true:=fun i=>hm
    have key:∀ (i:Nat) d,ds[i]? = some d→w.cell? (bg (g.ad pl.k pl.p) (pl.q + i))=some (g.cv pl.k pl.p (pl.q + i))∧Ro w g'.o d (g.cv pl.k pl.p (pl.q + i))∧(g.ad pl.k pl.p).1 < w.heap.size:=fun i d hi=>by
     rcases hcell i d hi with ⟨h3,h4⟩|h3
     have h5:=hR.cellAt h3
     obtain ⟨cs,e,h6⟩:=(h5.2.2.2 (Wi i)).2
     exact ⟨h5.2.2.1 (Wi i),hown _ d h3 h4,jL h6⟩
     have h5:=hR.cellAt h3
     obtain ⟨cs,e,h6⟩:=(h5.2.2.2 (Wi i)).2
     exact ⟨h5.2.2.1 (Wi i),hro d _ h5.2.1,jL h6⟩
    have hlt:(g.ad pl.k pl.p).1 < w.heap.size:=(key 0 ds[0] (List.getElem?_eq_getElem h0)).2.2
    refine .bV ds (g.ad pl.k pl.p).1 ((g.ad pl.k pl.p).2 + pl.q) (fun i=>g.cv pl.k pl.p (pl.q + i)) (by rw [hg];simp [ij,hlt]) fun i d hi=> ?_
    have:=key i d hi
    refine ⟨?_,this.2.1⟩
    rw [Nat.add_assoc]
    exact this.1
end
structure mR where
 row:List D
 val:Nat→TS
structure Ek (w:World) (k:Nat) (r:mR) (v:Value) (w':World) (g':Gh):Prop where
 os:w'.os=w.os
 tape:w'.tape=w.tape
 output:w'.output=w.output
 size:w.heap.size ≤ w'.heap.size
 block:∀ b,b < w.heap.size→w'.heap[b]? = w.heap[b]?
 own:∀ b,w.heap.size ≤ b→b < w'.heap.size→g'.o b= .ro ∨ (g'.o b).gu = some k
 old:∀ b,(g'.o b).gu = some k→w.heap.size ≤ b∧b < w'.heap.size
 row:∀ (q:Nat) d,r.row[q]? = some d→Ow w' g' k [] q d
 val:dy w' g' (r.val k) v
def aF (P:Program) (f:FuncId) (pts:List TS) (R:mR→Prop):Prop:=
 ∀ (w:World) (g:Gh) (args:Array Value) (k:Nat),g.o=ij w→args.size=pts.length→(∀ (i:Nat) t u,pts[i]? = some t→args[i]? = some u→dy w g t u)→
  Calls P f args w fun e w'=>∃ v r g',e= .returned v∧R r∧Ek w k r v w' g'
def El (P:Program) (f:FuncId) (pts:List TS) (R:mR→Prop) (w:World):Prop:=
 ∀ (g:Gh) (args:Array Value) (k:Nat),g.o=ij w→args.size=pts.length→(∀ (i:Nat) t u,pts[i]? = some t→args[i]? = some u→dy w g t u)→
  Calls P f args w fun e w'=>∃ v r g',e= .returned v∧R r∧Ek w k r v w' g'
def Kept (w0:World) (g0:Gh) (w:World):Prop:=w0.heap.size ≤ w.heap.size∧∀ b,b < w0.heap.size→g0.o b= .ro→w.heap[b]? = w0.heap[b]?
theorem lF.kept {w0 w:World} {g0 g:Gh} (h:lF w0 g0 w g):Kept w0 g0 w:=⟨h.size,fun b hb ho=>(h.block b hb (.inl ho)).1⟩
def xI (P:Program) (w0:World) (g0:Gh) (f:FuncId) (pts:List TS) (R:mR→Prop):Prop:=∀ w,Kept w0 g0 w→El P f pts R w
theorem aF.k {P:Program} {w0:World} {g0:Gh} {f:FuncId} {pts:List TS} {R:mR→Prop} (h:aF P f pts R):xI P w0 g0 f pts R:=fun w _=>h w
def V8 (k n:Nat):C→Bool
 | .ro (.v _)=>true
 | .ref pl=>pl.k == k && pl.p.isEmpty && decide (pl.q < n)
 | .dead=>true
 | _=>false
def Yf (k n:Nat):TV→Bool
 | .c x=>V8 k n x
 | .agg cs=>cs.all (V8 k n)
 | _=>false
def Wj (k n:Nat):TS→Bool
 | .one t=>Yf k n t
 | .lp ts=>ts.all (Yf k n)
 | _=>false
section
variable {P:Program} {w0:World} {g0:Gh} {st:St} {a:Act} {w w':World} {g g':Gh}
def St.called (st:St) (k:Nat) (r:mR):St:=st.fresh k ⟨false,r.row.map C.own⟩
theorem Rel.called (hR:Rel w0 g0 st a w g) {k:Nat} (hkp:k < 1000000) {r:mR} {v:Value} (hG:Ek w k r v w' g') (hok:Wj k r.row.length (r.val k)=true):
  ∃ g2,Rel w0 g0 (st.called k r) a w' g2∧dy w' g2 (r.val k) v:=by
 let g2:Gh:=
  {o:=fun b=>if b < w.heap.size then g.o b else if b < w'.heap.size then g'.o b else .outer
   ad:=fun k'=>if k'=k then g'.ad k else g.ad k'
   cv:=fun k'=>if k'=k then g'.cv k else g.cv k' }
 have yy:cm ≠ k:=by simp only [cm];omega
 have N6:dN ≠ k:=by simp only [dN];omega
 have ho:∀ b,b < w.heap.size→g2.o b=g.o b:=fun b hb=>if_pos hb
 have hlt:∀ b,g.o b ≠ .outer→b < w.heap.size:=fun b hb=>by
  rcases Nat.lt_or_ge b w.heap.size with h|h
  exact h
  exact absurd (hR.ks.fresh b h) hb
 have hS:nw w g w' g2 (· ≠ k):=by
  refine ⟨fun b hb=> ?_,fun k' hk' b hb=> ?_,fun k' hk'=>if_neg hk',fun k' hk'=>if_neg hk'⟩
  have:=hlt b (by rw [hb];simp)
  exact ⟨by rw [ho b this];exact hb,hG.block b this⟩
  have:=hlt b (fun e=>by rw [e] at hb;cases hb)
  exact ⟨ho b this,hG.block b this⟩
 have hnew:∀ b,w.heap.size ≤ b→b < w'.heap.size→g2.o b ≠ .outer:=fun b h1 h2 h3=>by
  simp only [g2,if_neg (Nat.not_lt.2 h1),if_pos h2] at h3
  rcases hG.own b h1 h2 with h|h
  rw [h] at h3;cases h3
  rw [h3] at h;cases h
 have hK:lF w0 g0 w' g2:=by
  refine ⟨hG.os.trans hR.ks.os,hG.tape.trans hR.ks.tape,hG.output.trans hR.ks.output,Nat.le_trans hR.ks.size hG.size,fun b hb hx=> ?_,fun b hb=> ?_,fun b hb hx=> ?_,⟨fun q=> ?_, ?_⟩,fun b hb=> ?_⟩
  have h1:b < w.heap.size:=by have:=hR.ks.size;omega
  rw [ho b h1,hG.block b h1]
  exact hR.ks.block b hb hx
  have h1:¬ b < w.heap.size:=by have:=hG.size;omega
  simp only [g2,if_neg h1,if_neg (Nat.not_lt.2 hb)]
  by_cases h1:b < w.heap.size
  rw [ho b h1] at hx
  exact hR.ks.old b h1 hx
  exact absurd hx (hnew b (by omega) hb)
  simp only [g2,if_neg yy];exact hR.ks.uB.1 q
  simp only [g2,if_neg N6];exact hR.ks.uB.2
  by_cases h1:b < w.heap.size
  rw [ho b h1] at hb
  exact hR.ks.ie b hb
  by_cases h2:b < w'.heap.size
  simp only [g2,if_neg h1,if_pos h2] at hb
  rcases hG.own b (by omega) h2 with h|h
  rw [h] at hb;cases hb
  rw [hb] at h
  simp only [Tag.gu,Option.some.injEq] at h
  exact yy h
  simp only [g2,if_neg h1,if_neg h2] at hb
  cases hb
 have hok2:∀ b,(g'.o b).gu = some k→g2.o b=g'.o b:=fun b hb=>by
  obtain ⟨h1,h2⟩:=hG.old b hb
  simp only [g2,if_neg (Nat.not_lt.2 h1),if_pos h2]
 have LP:g2.cv k=g'.cv k:=by simp [g2]
 have hadk:g2.ad k=g'.ad k:=by simp [g2]
 have V9:∀ q d,Ow w' g' k [] q d→Ow w' g2 k [] q d:=fun q d h=>by
  refine Ow.move h ⟨by rw [LP],fun i r q'=>by rw [LP],fun i r=>by rw [hadk],fun b hb=>⟨?_,rfl⟩,fun b i r q' hb=>⟨?_,rfl⟩⟩
  rw [hok2 b (by rw [hb];rfl)];exact hb
  rw [hok2 b (by rw [hb];rfl)];exact hb
 refine ⟨g2,hR.grow hS hK (fun q c hq=> ?_) (fun h=>by cases h), ?_⟩
 rw [List.getElem?_map,Option.map_eq_some_iff] at hq
 obtain ⟨d,hq,rfl⟩:=hq
 exact V9 q d (hG.row q d hq)
 have hC:∀ c u,V8 k r.row.length c=true→fO w' g' c u→fO w' g2 c u:=fun c u h1 h2=>by
  cases c with
  | ro d=>
   cases d with
   | v x=>
    have h3:Ro w' g'.o (.v x) u:=h2
    cases h3 with
    | v _ hp=>exact Ro.v _ hp
   | _=>cases h1
  | own d=>exact h2
  | ref pl=>
   simp only [V8,Bool.and_eq_true,beq_iff_eq] at h1
   obtain ⟨⟨h3,_⟩,_⟩:=h1
   show u=g2.cv pl.k pl.p pl.q∧u.oneCell'=true
   rw [h3,LP, ← h3]
   exact h2
  | dead=>trivial
 have hT:∀ t u,Yf k r.row.length t=true→ef w' g' t u→ef w' g2 t u:=fun t u h1 h2=>by
  cases h2 with
  | c c u hv=>exact .c c u (hC c u h1 hv)
  | agg cs us hs hv=>exact .agg cs us hs fun j c u h3 h4=>hC c u (List.all_eq_true.1 h1 c (List.mem_of_getElem? h3)) (hv j c u h3 h4)
  | ptr pl=>cases h1
  | CV oC b off hro hcell=>cases h1
  | o3 oC b off hro hcell=>cases h1
  | cut pl sz lo hi b off n c hc Ie h2 h3=>cases h1
  | bV ds b off us ho hcell=>cases h1
  | dead u=>exact .dead u
 have hv:=hG.val
 generalize r.val k=t at hok hv
 cases hv with
 | one t u h=>exact .one t _ (hT t _ hok h)
 | lp ts us hs h=>exact .lp ts us hs fun j t u h3 h4=>hT t u (List.all_eq_true.1 hok t (List.mem_of_getElem? h3)) (h j t u h3 h4)
 | fn f fk us hs h=>cases hok
def jI (st:St):List Operand→Option (List TS)
 | []=>some []
 | x :: l=>match cy 0 st x,jI st l with|some t,some ts=>some (t :: ts)|_,_=>none
theorem Rel.jI (hR:Rel w0 g0 st a w g):∀ {l:List Operand} {ts:List TS},T.jI st l=some ts→ts.length=l.length∧∀ (i:Nat) t u,ts[i]? = some t→(l.map a.eval)[i]? = some u→dy w g t u
 | [],ts,h=>by
  simp only [T.jI,Option.some.injEq] at h
  subst h
  exact ⟨rfl,fun i t u hi=>by simp at hi⟩
 | x :: l,ts,h=>by
  simp only [T.jI] at h
  split at h
  rename_i t1 ts1 h1 h2
  simp only [Option.some.injEq] at h
  subst h
  have ih:=Rel.jI hR h2
  refine ⟨by simp [ih.1],fun i t u hi hu=> ?_⟩
  cases i with
  | zero=>
   simp only [List.getElem?_cons_zero,Option.some.injEq,List.map_cons] at hi hu
   subst hi;subst hu
   exact hR.cy h1
  | succ i=>exact ih.2 i t u (by simpa using hi) (by simpa using hu)
  cases h
inductive rD (st:St):List TS→List TS→Prop
 | nil:rD st [] []
 | cons {t t':TS} {ts ts':List TS} (h:xH st t t') (hs:rD st ts ts'):rD st (t :: ts) (t' :: ts')
theorem rD.get {ts ts':List TS} (h:rD st ts ts'):ts'.length=ts.length∧∀ (i:Nat) t',ts'[i]? = some t'→∃ t,ts[i]? = some t∧xH st t t':=by
 induction h with
 | nil=>exact ⟨rfl,fun i t' hi=>by simp at hi⟩
 | cons h hs ih=>
  refine ⟨by simp [ih.1],fun i t' hi=> ?_⟩
  cases i with
  | zero=>
   simp only [List.getElem?_cons_zero,Option.some.injEq] at hi
   subst hi
   exact ⟨_,rfl,h⟩
  | succ i=>exact ih.2 i t' (by simpa using hi)
variable {o:Oper} {Q:St→Prop}
end
def refC:C→List (Nat×Nat)
 | .ref pl=>[(pl.k,pl.q)]
 | _=>[]
def fh:TV→List (Nat×Nat)
 | .c x=>refC x
 | .agg cs=>cs.flatMap refC
 | _=>[]
def idxOf (s:Nat×Nat):List (Nat×Nat)→Option Nat
 | []=>none
 | x :: l=>if x=s then some 0 else (idxOf s l).map (· + 1)
theorem ey {s:Nat×Nat}:∀ {l:List (Nat×Nat)} {j:Nat},idxOf s l=some j→l[j]? = some s
 | [],j,h=>by cases h
 | x :: l,j,h=>by
  simp only [idxOf] at h
  split at h
  rename_i e
  simp only [Option.some.injEq] at h
  subst h;subst e
  rfl
  rw [Option.map_eq_some_iff] at h
  obtain ⟨i,h1,rfl⟩:=h
  rw [List.getElem?_cons_succ]
  exact ey h1
theorem p5 {s:Nat×Nat}:∀ {l:List (Nat×Nat)} {j:Nat},l.Nodup→l[j]? = some s→idxOf s l=some j
 | [],j,_,h=>by simp at h
 | x :: l,0,hn,h=>by
  simp only [List.getElem?_cons_zero,Option.some.injEq] at h
  simp [idxOf,h]
 | x :: l,j + 1,hn,h=>by
  rw [List.getElem?_cons_succ] at h
  have hne:x ≠ s:=fun e=>by
   subst e
   exact (List.nodup_cons.1 hn).1 (List.mem_of_getElem? h)
  simp only [idxOf,if_neg hne,p5 (List.nodup_cons.1 hn).2 h,Option.map_some]
def Ci (aK:List (Nat×Nat)) (k:Nat):C→C
 | .ro (.v x)=> .ro (.v x)
 | .ref pl=>match pl.p,idxOf (pl.k,pl.q) aK with
  | [],some j=> .ref ⟨k,[],j⟩
  | _,_=> .dead
 | _=> .dead
def iH (aK:List (Nat×Nat)) (k:Nat):TV→TV
 | .c x=> .c (Ci aK k x)
 | .agg cs=> .agg (cs.map (Ci aK k))
 | _=> .dead
def gV (st:St):List (Nat×Nat)→Option (List D)
 | []=>some []
 | s :: l=>match st.cellAt ⟨s.1,[],s.2⟩,gV st l with
  | some (.own d),some ds=>some (d :: ds)
  | _,_=>none
theorem jM {st:St}:∀ {l:List (Nat×Nat)} {ds:List D},gV st l=some ds→ds.length=l.length∧∀ (j:Nat) d,ds[j]? = some d→∃ s,l[j]? = some s∧st.cellAt ⟨s.1,[],s.2⟩=some (.own d)
 | [],ds,h=>by
  simp only [gV,Option.some.injEq] at h
  subst h
  exact ⟨rfl,fun j d hj=>by simp at hj⟩
 | s :: l,ds,h=>by
  simp only [gV] at h
  split at h
  rename_i d ds' h1 h2
  simp only [Option.some.injEq] at h
  subst h
  have ih:=jM h2
  refine ⟨by simp [ih.1],fun j d' hj=> ?_⟩
  cases j with
  | zero=>
   simp only [List.getElem?_cons_zero,Option.some.injEq] at hj
   subst hj
   exact ⟨s,rfl,h1⟩
  | succ j=>exact ih.2 j d' (by simpa using hj)
  cases h
def Gh.kC (g:Gh) (aK:List (Nat×Nat)) (k:Nat):Gh where
 o b:=match g.o b with
  | .cQ k' p q=>match p with
   | []=>match idxOf (k',q) aK with|some j=> .cQ k [] j|none=> .ro
   | (q1,i) :: r=>match idxOf (k',q1) aK with|some j=> .cQ k ((j,i) :: r) q|none=> .ro
  | .box _=> .ro
  | t=>t
 ad _ p:=match p with| []=>(0,0)|(j,i) :: r=>match aK[j]? with|some s=>g.ad s.1 ((s.2,i) :: r)|none=>(0,0)
 cv _ p q:=match p with| []=>(match aK[q]? with|some s=>g.cv s.1 [] s.2|none=>undef)|(j,i) :: r=>match aK[j]? with|some s=>g.cv s.1 ((s.2,i) :: r) q|none=>undef
section
variable {P:Program} {w w':World} {g0 g:Gh} {st:St} {a:Act}
theorem Rel.gives (hR:Rel w g0 st a w' g) (h0:g0.o=ij w) {aK:List (Nat×Nat)} (hn:aK.Nodup) {row:List D} (hc:gV st aK=some row) (k:Nat) {T:Nat→TS} {v:Value}
  (hv:dy w' (g.kC aK k) (T k) v):Ek w k ⟨row,T⟩ v w' (g.kC aK k):=by
 have Bl:∀ b,b < w.heap.size→w'.heap[b]? = w.heap[b]? ∧g.o b= .ro:=fun b hb=>by
  have h1:g0.o b= .ro:=by rw [h0];simp [ij,hb]
  obtain ⟨h2,h3⟩:=hR.ks.block b hb (.inl h1)
  exact ⟨h2,h3.trans h1⟩
 refine ⟨hR.ks.os,hR.ks.tape,hR.ks.output,hR.ks.size,fun b hb=>(Bl b hb).1,fun b h1 h2=> ?_,fun b hb=>⟨?_, ?_⟩,fun q d hq=> ?_,hv⟩
 simp only [Gh.kC]
 cases ht:g.o b with
 | ro=>exact .inl rfl
 | outer=>
  have:=(hR.ks.old b h2 ht).1
  omega
 | box k'=>exact .inl rfl
 | cQ k' p q=>
  cases p with
  | nil=>
   simp only
   split
   exact .inr rfl
   exact .inl rfl
  | cons x r=>
   obtain ⟨q1,i⟩:=x
   simp only
   split
   exact .inr rfl
   exact .inl rfl
 rcases Nat.lt_or_ge b w.heap.size with h|h
 have:=(Bl b h).2
 simp only [Gh.kC,this] at hb
 cases hb
 exact h
 rcases Nat.lt_or_ge b w'.heap.size with h|h
 exact h
 have:=hR.ks.fresh b h
 simp only [Gh.kC,this] at hb
 cases hb
 obtain ⟨s,h1,h2⟩:=(jM hc).2 q d hq
 have hO:Ow w' g s.1 [] s.2 d:=(hR.cellAt h2).1 d rfl
 have hi:=p5 hn h1
 refine Ow.move hO ⟨?_,fun i r q'=> ?_,fun i r=> ?_,fun b hb=>⟨?_,rfl⟩,fun b i r q' hb=>⟨?_,rfl⟩⟩
 simp [Gh.kC,h1]
 simp [Gh.kC,h1]
 simp [Gh.kC,h1]
 simp only [Gh.kC,hb,hi]
 simp only [Gh.kC,hb,List.nil_append,hi]
theorem Ij {aK:List (Nat×Nat)} {k:Nat} {c:C} {u:Value} (h:fO w' g c u):fO w' (g.kC aK k) (Ci aK k c) u:=by
 cases c with
 | ro d=>
  cases d with
  | v x=>
   have h3:Ro w' g.o (.v x) u:=h
   cases h3 with
   | v _ hp=>exact Ro.v _ hp
  | _=>trivial
 | own d=>trivial
 | ref pl=>
  obtain ⟨pk,pp,pq⟩:=pl
  simp only [Ci]
  split
  ·rename_i j h1 h2
   have:=ey h2
   refine ⟨?_,h.2⟩
   simp only [Gh.kC,this]
   exact h.1
  ·trivial
 | dead=>trivial
theorem Rm {aK:List (Nat×Nat)} {k:Nat} {t:TV} {u:Value} (h:ef w' g t u):ef w' (g.kC aK k) (iH aK k t) u:=by
 cases h with
 | c c u hv=>exact .c _ u (Ij hv)
 | agg cs us hs hv=>
  refine .agg _ us (by simpa using hs) fun j c u h1 h2=> ?_
  rw [List.getElem?_map,Option.map_eq_some_iff] at h1
  obtain ⟨c',h1,rfl⟩:=h1
  exact Ij (hv j c' u h1 h2)
 | _=>exact .dead _
def nx:List TV→TS
 | [t]=> .one t
 | l=> .lp l
def sN (P:Program) (st:St):ResultVar→Option TV
 | .tmp t=>match st.tmps[t]? with|some (.one tv)=>some tv|_=>none
 | .cell a ty=>match st.tmps[a]? with
  | some (.one (.ptr pl))=>if st.gv pl=true then (match u9 P ty with
   | some false=>(st.cellAt pl).map fun c=> .c (N3 pl c)
   | some true=>(match jm P ty with|some n=>(st.kT pl.k pl.p pl.q n).map .agg|none=>none)
   | none=>none) else none
  | _=>none
def CW:List Value→Value
 | [v]=>v
 | l=> .tuple l.toArray
def PX (tmps:Array Value):ResultVar→Sem Value
 | .tmp t=>pure (tmps.getD t undef)
 | .cell a t=>do loadVar t (← asAddr (tmps.getD a undef))
theorem Rel.result (hR:Rel w g0 st a w' g) {rv:ResultVar} {tv:TV} (h:sN P st rv=some tv):
  ∃ u,(PX a.tmps rv).run P w'= .ok u w'∧ef w' g tv u:=by
 cases rv with
 | tmp t=>
  simp only [sN] at h
  split at h
  rename_i tv' h1
  simp only [Option.some.injEq] at h
  subst h
  have h2:=hR.tm t _ h1
  generalize hv:a.tmps.getD t undef=u at h2
  cases h2 with
  | one _ _ h2=>exact ⟨u,(by show (pure (a.tmps.getD t undef):Sem Value).run P w'=_;rw [hv];rfl),h2⟩
  cases h
 | cell c t=>
  simp only [sN] at h
  split at h
  rename_i pl h1
  split at h
  rename_i hm
  have h2:=hR.tm c _ h1
  generalize hv:a.tmps.getD c undef=v at h2
  cases h2 with
  | one _ _ h2=>
   cases h2 with
   | ptr _=>
    split at h
    rename_i ht
    rw [Option.map_eq_some_iff] at h
    obtain ⟨c',hc,rfl⟩:=h
    have h3:=hR.cellAt hc
    refine ⟨_, ?_, .c _ _ h3.2.1⟩
    show Sem.run P (do loadVar t (← asAddr (a.tmps.getD c undef))) w'=_
    rw [hv]
    simp [asAddr,loadVar,gO ht,h3.2.2.1 hm]
    rename_i ht
    split at h
    rename_i n hs
    rw [Option.map_eq_some_iff] at h
    obtain ⟨l,hl,rfl⟩:=h
    obtain ⟨h2,h3,h4⟩:=hR.kT hl hm
    refine ⟨.agg ((List.range n).map fun j=>g.cv pl.k pl.p (pl.q + j)).toArray, ?_, .agg _ _ (by simp [h2]) fun j c u hj hu=> ?_⟩
    have hrun:=run_loadCells (P:=P) w' (bg (g.ad pl.k pl.p) pl.q) n (fun j=>g.cv pl.k pl.p (pl.q + j)) (fun j hj=>by rw [sL];exact h3 j hj)
    show Sem.run P (do loadVar t (← asAddr (a.tmps.getD c undef))) w'=_
    rw [hv]
    simp [asAddr,loadVar,gO ht,cU hs,hrun]
    rw [List.getElem?_toArray,List.getElem?_map,Option.map_eq_some_iff] at hu
    obtain ⟨j',h5,rfl⟩:=hu
    rw [List.getElem?_range (by rw [← h2];exact (List.getElem?_eq_some_iff.1 hj).1)] at h5
    simp only [Option.some.injEq] at h5
    subst h5
    exact h4 j c hj
    cases h
    cases h
  cases h
  cases h
def Ends (P:Program) (fn:Func) (R:mR→Prop) (e:Exit) (st:St):Prop:=
 (e= .normal ∨ e= .ret)∧∃ (u_:List ResultVar) (cZ:List TV) (row:List D),fn.results=u_.toArray∧u_.length ≤ 4∧u_.map (sN P st)=cZ.map some∧
  (cZ.flatMap fh).Nodup∧gV st (cZ.flatMap fh)=some row∧R ⟨row,fun k=>nx (cZ.map (iH (cZ.flatMap fh) k))⟩
theorem oE {fn:Func} {u_:List ResultVar} (h:fn.results=u_.toArray) (hl:u_.length ≤ 4) (tmps:Array Value) (w:World) {us:List Value} (hu:us.length=u_.length)
  (hr:∀ (i:Nat) rv u,u_[i]? = some rv→us[i]? = some u→(PX tmps rv).run P w= .ok u w):
  (results fn tmps).run P w= .ok (CW us) w:=by
 have hres:results fn tmps=(do let vs ← u_.toArray.mapM (PX tmps);pure (if h:vs.size=1 then vs[0] else .tuple vs)):=by rw [← h];rfl
 rw [hres]
 match u_,us,hl,hu,hr with
 | [],[],_,_,_=>simp [CW]
 | [r1],[u1],_,_,hr=>
  have h1:=hr 0 r1 u1 rfl rfl
  simp [h1,CW]
 | [r1,r2],[u1,u2],_,_,hr=>
  have h1:=hr 0 r1 u1 rfl rfl
  have h2:=hr 1 r2 u2 rfl rfl
  simp [h1,h2,CW]
 | [r1,r2,r3],[u1,u2,u3],_,_,hr=>
  have h1:=hr 0 r1 u1 rfl rfl
  have h2:=hr 1 r2 u2 rfl rfl
  have h3:=hr 2 r3 u3 rfl rfl
  simp [h1,h2,h3,CW]
 | [r1,r2,r3,r4],[u1,u2,u3,u4],_,_,hr=>
  have h1:=hr 0 r1 u1 rfl rfl
  have h2:=hr 1 r2 u2 rfl rfl
  have h3:=hr 2 r3 u3 rfl rfl
  have h4:=hr 3 r4 u4 rfl rfl
  simp [h1,h2,h3,h4,CW]
 | _ :: _ :: _ :: _ :: _ :: _,_,hl,_,_=>simp at hl
theorem Rel.resultList (hR:Rel w g0 st a w' g):∀ {u_:List ResultVar} {cZ:List TV},u_.map (sN P st)=cZ.map some→∃ us:List Value,us.length=u_.length∧
  (∀ (i:Nat) rv u,u_[i]? = some rv→us[i]? = some u→(PX a.tmps rv).run P w'= .ok u w')∧
  ∀ (i:Nat) t u,cZ[i]? = some t→us[i]? = some u→ef w' g t u
 | [],[],_=>⟨[],rfl,fun i rv u h=>by simp at h,fun i t u h=>by simp at h⟩
 | [],t :: l,h=>by simp at h
 | r :: l,[],h=>by simp at h
 | rv :: u_,tv :: cZ,h=>by
  simp only [List.map_cons,List.cons.injEq] at h
  obtain ⟨u,h1,h2⟩:=hR.result h.1
  obtain ⟨us,h3,h4,h5⟩:=Rel.resultList hR h.2
  refine ⟨u :: us,by simp [h3],fun i rv' u' hi hu=> ?_,fun i t u' hi hu=> ?_⟩
  cases i with
  | zero=>
   simp only [List.getElem?_cons_zero,Option.some.injEq] at hi hu
   subst hi;subst hu
   exact h1
  | succ i=>exact h4 i rv' u' (by simpa using hi) (by simpa using hu)
  cases i with
  | zero=>
   simp only [List.getElem?_cons_zero,Option.some.injEq] at hi hu
   subst hi;subst hu
   exact h2
  | succ i=>exact h5 i t u' (by simpa using hi) (by simpa using hu)
theorem El.of {f:FuncId} {fn:Func} {c:Code} {pts:List TS} {R:mR→Prop} {w:World} (hf:P.funcs[f]? = some fn) (hb:fn.body=some c) (hn:pts.length ≤ fn.ntmps)
  (h:∀ g0:Gh,g0.o=ij w→TC P w g0 c ⟨pts ++ List.replicate (fn.ntmps - pts.length) (.one .dead),[]⟩ (Ends P fn R)):El P f pts R w:=by
 intro g args k hg hsz hargs
 refine calls_of_wp hf hb (wp_mono (h g hg _ w g ⟨fun i tv hi=> ?_, ?_,rfl,⟨fun k r hk=> ?_,fun k r hk=> ?_⟩,⟨rfl,rfl,rfl,Nat.le_refl _,fun b hb _=>⟨rfl,rfl⟩,fun b hb=> ?_,fun b hb ho=> ?_,⟨fun _=>rfl,rfl⟩,fun b=> ?_⟩⟩) fun e a w' ⟨st,g',hE,hR⟩=> ?_)
 by_cases hlt:i < pts.length
 rw [List.getElem?_append_left hlt] at hi
 have hi':i < args.size:=by omega
 have h1:(args ++ Array.replicate (fn.ntmps - args.size) undef).getD i undef=args[i]:=by
  rw [Array.getD_eq_getD_getElem?,Array.getElem?_append_left hi',Array.getElem?_eq_getElem hi']
  rfl
 show dy w g tv ((args ++ Array.replicate (fn.ntmps - args.size) undef).getD i undef)
 rw [h1]
 exact hargs i tv _ hi (Array.getElem?_eq_getElem hi')
 rw [List.getElem?_append_right (by omega),List.getElem?_replicate] at hi
 split at hi
 simp only [Option.some.injEq] at hi
 subst hi
 exact .one _ _ (.dead _)
 cases hi
 show (args ++ Array.replicate (fn.ntmps - args.size) undef).size=_
 simp [hsz]
 simp [St.root] at hk
 simp [St.root] at hk
 rw [hg];simp [ij];omega
 rw [hg] at ho;simp [ij,hb] at ho
 rw [hg];simp only [ij];split <;> simp
 obtain ⟨he,u_,cZ,row,h1,h2,h3,h4,h5,h6⟩:=hE
 have hlen:u_.length=cZ.length:=by
  have:=congrArg List.length h3
  simpa using this
 obtain ⟨us,PY,PZ,sO⟩:=hR.resultList h3
 have hrun:=oE (P:=P) h1 h2 a.tmps w' PY PZ
 have xJ:∀ (i:Nat) t u,cZ[i]? = some t→us[i]? = some u→ef w' (g'.kC (cZ.flatMap fh) k) (iH (cZ.flatMap fh) k t) u:=fun i t u hi hu=>Rm (sO i t u hi hu)
 have hval:dy w' (g'.kC (cZ.flatMap fh) k) (nx (cZ.map (iH (cZ.flatMap fh) k))) (CW us):=by
  have JI:∀ l:List Value,l.length=cZ.length→(∀ (i:Nat) t u,cZ[i]? = some t→l[i]? = some u→ef w' (g'.kC (cZ.flatMap fh) k) (iH (cZ.flatMap fh) k t) u)→
    dy w' (g'.kC (cZ.flatMap fh) k) (.lp (cZ.map (iH (cZ.flatMap fh) k))) (.tuple l.toArray):=fun l hl hh=>
   .lp _ _ (by simp [hl]) fun j t u hj hu=>by
    rw [List.getElem?_map,Option.map_eq_some_iff] at hj
    obtain ⟨t',hj,rfl⟩:=hj
    exact hh j t' u hj (by simpa using hu)
  have hl:=JI us (by omega) xJ
  have Wk:us.length=cZ.length:=by omega
  clear hrun PZ sO h3 h5 h6
  match us,cZ,Wk with
  | [],[],_=>exact hl
  | [t],[tv],_=>exact .one _ _ (xJ 0 tv _ rfl rfl)
  | _ :: _ :: _,_ :: _ :: _,_=>exact hl
 have hG:=hR.gives hg h4 h5 k (T:=fun k=>nx (cZ.map (iH (cZ.flatMap fh) k))) hval
 have vg:∃ v,(results fn a.tmps).run P w'= .ok v w'∧∃ v_1 r g',Ending.returned v=Ending.returned v_1∧R r∧Ek w k r v_1 w' g':=⟨_,hrun,_,_,_,rfl,h6,hG⟩
 rcases he with rfl|rfl
 exact ⟨hR.df,vg⟩
 exact ⟨hR.df,vg⟩
theorem aF.of {f:FuncId} {fn:Func} {c:Code} {pts:List TS} {R:mR→Prop} (hf:P.funcs[f]? = some fn) (hb:fn.body=some c) (hn:pts.length ≤ fn.ntmps)
  (h:∀ w g0,TC P w g0 c ⟨pts ++ List.replicate (fn.ntmps - pts.length) (.one .dead),[]⟩ (Ends P fn R)):aF P f pts R:=
 fun w=>El.of hf hb hn fun g0 _=>h w g0
end
section
variable {P:Program} {w0:World} {g0:Gh} {st:St} {a:Act} {w w':World} {g g':Gh}
variable {o:Oper} {Q:St→Prop} {x y:Operand} {t e:TypeId}
def c5:C→D
 | .ro (.v x)=> .v x
 | _=> .hole
def lz:TV→D
 | .c x=>c5 x
 | .agg cs=> .st (cs.map c5)
 | _=> .hole
theorem N9 {c:C} {u:Value} (h:fO w g c u):Yc (c5 c) u:=by
 cases c with
 | ro d=>
  cases d with
  | v x=>
   have h3:Ro w g.o (.v x) u:=h
   cases h3 with
   | v _ hp=>exact ⟨rfl,hp⟩
  | _=>trivial
 | _=>trivial
def St.pu (k:Nat):List C→(C→C)→Nat→St→Option St
 | [],_,_,st=>some st
 | c :: cs,f,j,st=>
  match f c with
  | .ro (.v _)=>St.pu k cs f (j + 1) st
  | .ref s=>
   match st.cellAt ⟨k,[(0,0)],j⟩ with
   | some _=>
    match st.dD ⟨k,[(0,0)],j⟩ (.ref s) with
    | some bD=>St.pu k cs (fun c=>(f c).kill (dP k [(0,0)] j)) (j + 1) bD
    | none=>none
   | none=>none
  | _=>none
theorem SV {k j j':Nat} (h:j ≠ j'):dP k [(0,0)] j ⟨k,[(0,0)],j'⟩=false:=by
 simp [dP,shapeOf,List.isPrefixOf,h]
theorem Rel.pu {k:Nat}:∀ {cs:List C} {f:C→C} {j:Nat} {st bD:St} {w:World} {g:Gh} (hR:Rel w0 g0 st a w g),St.pu k cs f j st=some bD→
  (∀ (i:Nat) c,cs[i]? = some c→fO w g (f c) (g.cv k [(0,0)] (j + i)))→∃ g',Rel w0 g0 bD a w g'∧g'.cv k []=g.cv k []
 | [],f,j,st,bD,w,g,hR,hs,_=>by
  simp only [St.pu,Option.some.injEq] at hs
  subst hs
  exact ⟨g,hR,rfl⟩
 | c :: cs,f,j,st,bD,w,g,hR,hs,hv=>by
  simp only [St.pu] at hs
  split at hs
  exact Rel.pu hR hs fun i c' hi=>by
   have:=hv (i + 1) c' (by simpa using hi)
   rw [show j + 1 + i=j + (i + 1) by omega]
   exact this
  rename_i s hfs
  split at hs
  rename_i c0 hc0
  split at hs
  rename_i Sr hs1
  have hv0:=hv 0 c rfl
  rw [hfs,Nat.add_zero] at hv0
  have hcell:=(hR.cellAt hc0).2.2.1 rfl
  obtain ⟨g1,V7,X_,had⟩:=hR.dD hc0 rfl hs1 hv0
  rw [zL hcell] at V7 X_
  obtain ⟨g2,Cj,SW⟩:=Rel.pu V7 hs fun i c' hi=>by
   have h1:=(hv (i + 1) c' (by simpa using hi)).kill X_
   rw [show j + 1 + i=j + (i + 1) by omega,X_.cv ⟨k,[(0,0)],j + (i + 1)⟩ (show dP k [(0,0)] j ⟨k,[(0,0)],j + (i + 1)⟩=false from SV (j:=j) (j':=j + (i + 1)) (by omega))]
   exact h1
  refine ⟨g2,Cj,SW.trans (funext fun q=> ?_)⟩
  exact X_.cv ⟨k,[],q⟩ (by simp [dP,shapeOf,List.isPrefixOf])
  cases hs
  cases hs
  cases hs
def jn:TV→List C
 | .c x=>[x]
 | .agg cs=>cs
 | _=>[]
theorem ef.cells {tv:TV} {u:Value} (h:ef w g tv u) (hk:∀ c ∈ jn tv,c ≠ .dead) (hne:jn tv ≠ [] ∨ ∃ cs,tv= .agg cs):u.cells.size=(jn tv).length∧
  (∀ (j:Nat) c x,(jn tv)[j]? = some c→u.cells[j]? = some x→fO w g c x):=by
 cases h with
 | c c u hv=>
  have h1:=hv.one (hk c (by simp [jn]))
  rw [sM h1]
  refine ⟨rfl,fun j c' x hj hx=> ?_⟩
  cases j with
  | zero=>
   simp only [jn,List.getElem?_cons_zero,Option.some.injEq] at hj
   subst hj
   simp at hx
   subst hx
   exact hv
  | succ j=>simp [jn] at hj
 | agg cs us hs hv=>exact ⟨hs,fun j c x hj hx=>hv j c x hj hx⟩
 | _=>rcases hne with h|⟨cs,h⟩ <;> simp [jn] at h
theorem Wl (tv:TV) (h:jn tv ≠ [] ∨ ∃ cs,tv= .agg cs):(lz tv).row=(jn tv).map c5:=by
 cases tv with
 | c x=>
  cases x with
  | ro d=>cases d <;> rfl
  | _=>rfl
 | agg cs=>rfl
 | _=>rcases h with h|⟨cs,h⟩ <;> simp [jn] at h
def xK (z:Nat) (st:St):List Operand→Option (List TV)
 | []=>some []
 | x :: l=>match cy z st x,xK z st l with|some (.one t),some ts=>some (t :: ts)|_,_=>none
theorem Rel.xK (hR:Rel w0 g0 st a w g) {z:Nat}:∀ {l:List Operand} {ts:List TV},T.xK z st l=some ts→ts.length=l.length∧∀ (i:Nat) t u,ts[i]? = some t→(l.map a.eval)[i]? = some u→ef w g t u
 | [],ts,h=>by
  simp only [T.xK,Option.some.injEq] at h
  subst h
  exact ⟨rfl,fun i t u hi=>by simp at hi⟩
 | x :: l,ts,h=>by
  simp only [T.xK] at h
  split at h
  rename_i t1 ts1 h1 h2
  simp only [Option.some.injEq] at h
  subst h
  have ih:=Rel.xK hR h2
  refine ⟨by simp [ih.1],fun i t u hi hu=> ?_⟩
  cases i with
  | zero=>
   simp only [List.getElem?_cons_zero,Option.some.injEq,List.map_cons] at hi hu
   subst hi;subst hu
   have:=hR.cy h1
   generalize a.eval x=u at this
   cases this with
   | one _ _ h3=>exact h3
  | succ i=>exact ih.2 i t u (by simpa using hi) (by simpa using hu)
  cases h
def yB (sz:Nat) (tv:TV):Bool:=(jn tv).length == sz && (jn tv).all (fun c=>match c with| .dead=>false|_=>true)
theorem Rel.built (hR:Rel w0 g0 st a w g) {n:Nat} {parts:Array (Nat×Operand)} (ho:o.op= .buildSlice t n parts) {xs:List Operand} (hp:parts.toList=(xs.zipIdx 0).map fun x=>(x.2,x.1)) (hn:xs.length=n) (k:Nat) (hkp:k < 1000000)
  {z:Nat} {cZ:List TV} (hx:T.xK z st xs=some cZ) (hu:P.underlying t=some (.slice e)) {sz:Nat} (hs:jm P e=some sz) {zv:Value} (hz:(P.info? e).bind (·.zero)=some zv)
  (SX:cZ.all (yB sz)=true) (hsz:0 < sz) (Wm:n * sz ≤ 16777216):
  ∃ cells g',(execOp a.eval o).run P w= .ok (.value (.slice (some ⟨w.heap.size,0,none⟩) n n)) (w.alloc (.cells cells e))∧
   Rel w0 g0 (st.renew [k] k ⟨false,[.own (.sl sz (cZ.map lz))]⟩) a (w.alloc (.cells cells e)) g'∧g'.cv k [] 0= .slice (some ⟨w.heap.size,0,none⟩) n n∧nw w g (w.alloc (.cells cells e)) g' (· ≠ k)∧
   ∀ (i:Nat) tv,cZ[i]? = some tv→∀ (j:Nat) c,(jn tv)[j]? = some c→fO w g c (g'.cv k [(0,i)] j):=by
 have hv:=hR.xK hx
 have SY:∀ tv ∈ cZ,(jn tv).length=sz∧∀ c ∈ jn tv,c ≠ .dead:=fun tv SZ=>by
  have:=List.all_eq_true.1 SX tv SZ
  simp only [yB,Bool.and_eq_true,beq_iff_eq] at this
  refine ⟨this.1,fun c hc e=> ?_⟩
  have:=List.all_eq_true.1 this.2 c hc
  subst e
  cases this
 have P0:∀ (i:Nat) tv u,cZ[i]? = some tv→(xs.map a.eval)[i]? = some u→u.cells.size=sz∧∀ (j:Nat) c x,(jn tv)[j]? = some c→u.cells[j]? = some x→fO w g c x:=fun i tv u hi hu=>by
  obtain ⟨h1,h2⟩:=SY tv (List.mem_of_getElem? hi)
  have:=(hv.2 i tv u hi hu).cells h2 (.inl (fun e=>by rw [e] at h1;simp at h1;omega))
  rw [h1] at this
  exact this
 have hvs:∀ u ∈ xs.map a.eval,u.cells.size=sz:=fun u hu=>by
  obtain ⟨i,hi⟩:=List.getElem?_of_mem hu
  have hlt:i < cZ.length:=by rw [hv.1];simpa using (List.getElem?_eq_some_iff.1 hi).1
  exact (P0 i _ u (List.getElem?_eq_getElem hlt) hi).1
 have hlen:cZ.length=n:=by rw [hv.1,hn]
 generalize vh:((xs.map a.eval).flatMap fun v=>v.cells.toList).toArray=cells
 have N_:∀ i j u,(xs.map a.eval)[i]? = some u→j < sz→cells[i * sz + j]? = u.cells[j]? :=fun i j u hi hj=>by
  rw [← vh]
  have h1:((xs.map a.eval).flatMap fun v=>v.cells.toList).toArray[i * sz + j]? = ((xs.map a.eval).flatMap fun v=>v.cells.toList)[i * sz + j]? :=by simp
  rw [h1,Great.flat_get hsz _ hvs]
  have h2:(i * sz + j) / sz=i:=by rw [Nat.add_comm,Nat.add_mul_div_right _ _ hsz,Nat.div_eq_of_lt hj,Nat.zero_add]
  have h3:(i * sz + j) % sz=j:=by rw [Nat.add_comm,Nat.add_mul_mod_self_right,Nat.mod_eq_of_lt hj]
  rw [h2,h3,hi]
  rfl
 have hsize:cells.size=n * sz:=by
  rw [← vh]
  have:∀ l:List Value,(∀ v ∈ l,v.cells.size=sz)→(l.flatMap fun v=>v.cells.toList).length=l.length * sz:=by
   intro l
   induction l with
   | nil=>intro _;simp
   | cons v l ih=>
    intro hl
    rw [List.flatMap_cons,List.length_append,ih (fun v hv=>hl v (List.mem_cons_of_mem _ hv)),List.length_cons,Nat.add_mul]
    have:=hl v List.mem_cons_self
    simp only [Array.length_toList,this]
    omega
  rw [List.size_toArray,this _ hvs,List.length_map,hn]
 have hrow:∀ tv ∈ cZ,(lz tv).row=(jn tv).map c5:=fun tv SZ=>Wl tv (.inl (fun e=>by
  have:=(SY tv SZ).1
  rw [e] at this
  simp at this
  omega))
 obtain ⟨g',hU,LU,hS⟩:=hR.slice (k:=k) hkp (cells:=cells) (e:=e) (sz:=sz) (n:=n) (c:=n) (ds:=cZ.map lz) (by simpa using hlen) (by
   have:n * 1 ≤ n * sz:=Nat.mul_le_mul_left _ hsz
   simp only [most]
   omega) (Nat.le_refl _) (by
   have:n * 1 ≤ n * sz:=Nat.mul_le_mul_left _ hsz
   omega) (by omega)
  (fun d hd=>by
   obtain ⟨tv,SZ,rfl⟩:=List.mem_map.1 hd
   rw [hrow tv SZ,List.length_map,(SY tv SZ).1]) (fun i d hd j c' u hj hu=>by
   rw [List.getElem?_map,Option.map_eq_some_iff] at hd
   obtain ⟨tv,SZ,rfl⟩:=hd
   rw [hrow tv (List.mem_of_getElem? SZ),List.getElem?_map,Option.map_eq_some_iff] at hj
   obtain ⟨c,hj,rfl⟩:=hj
   have hjl:j < sz:=by rw [← (SY tv (List.mem_of_getElem? SZ)).1];exact (List.getElem?_eq_some_iff.1 hj).1
   have NS:i < (xs.map a.eval).length:=by rw [List.length_map, ← hv.1];exact (List.getElem?_eq_some_iff.1 SZ).1
   have hxi:=List.getElem?_eq_getElem NS
   rw [N_ i j _ hxi hjl] at hu
   exact N9 ((P0 i tv _ SZ hxi).2 j c u hj hu))
 refine ⟨cells,g', ?_,hU,LU,hS,fun i tv hi j c hj=> ?_⟩
 have sH:(zeroValue e).run P w= .ok zv w:=by
  rw [Option.bind_eq_some_iff] at hz
  obtain ⟨i,h1,h2⟩:=hz
  simp [zeroValue,typeInfo,h1,h2]
 have Y8:(parts.map fun x=>(x.1,a.eval x.2)).toList=((xs.map a.eval).zipIdx 0).map fun x=>(x.2,x.1):=by
  rw [Array.toList_map,hp,List.map_map,List.zipIdx_map,List.map_map]
  rfl
 have S0:=Great.fill_whole hsz (xs.map a.eval) ((Array.range (n * sz)).map (zv.cells[· % zv.cells.size]!)) hvs (by simp [hn])
 rw [vh, ← Y8] at S0
 have h24:¬ (16777216 < n * sz):=by omega
 by_cases h0:n * sz=0
 have hn0:n=0:=by
  rcases Nat.mul_eq_zero.1 h0 with h|h
  exact h
  omega
 subst hn0
 have hc0:cells= #[]:=by
  apply Array.eq_empty_of_size_eq_zero
  omega
 have hpe:parts= #[]:=by
  have hx0:xs=[]:=List.eq_nil_of_length_eq_zero hn
  rw [hx0] at hp
  have:parts.toList=[]:=by simpa using hp
  exact Array.toList_eq_nil_iff.1 this
 subst hc0;subst hpe
 simp [execOp,ho,Instr.buildSlice,run_underlying hu,cU hs,Instr.fill,newRow,Array.range_zero']
 simp [execOp,ho,Instr.buildSlice,run_underlying hu,cU hs,h24,h0,sH,newRow]
 simp at S0
 simp [S0]
 have gk:(st.renew [k] k ⟨false,[.own (.sl sz (cZ.map lz))]⟩).root k=some ⟨false,[.own (.sl sz (cZ.map lz))]⟩:=by rw [St.yz];simp
 have V9:Ow (w.alloc (.cells cells e)) g' k [] 0 (.sl sz (cZ.map lz)):=hU.rt.cell k _ gk 0 (.own (.sl sz (cZ.map lz))) rfl
 have hjl:j < sz:=by rw [← (SY tv (List.mem_of_getElem? hi)).1];exact (List.getElem?_eq_some_iff.1 hj).1
 have NS:i < (xs.map a.eval).length:=by rw [List.length_map, ← hv.1];exact (List.getElem?_eq_some_iff.1 hi).1
 have hxi:=List.getElem?_eq_getElem NS
 have hsz':=(P0 i tv _ hi hxi).1
 generalize hmap:cZ.map lz=dl at V9
 cases V9 with
 | nil _ _ _ hc=>rw [LU] at hc;cases hc
 | sl _ _ _ _ b off n' c' cs ty hc hn' hm hnc uA ho' hb hfit Ig had hcell hel=>
  rw [LU] at hc
  simp only [Value.slice.injEq,Option.some.injEq,Addr.mk.injEq] at hc
  obtain ⟨⟨rfl,rfl,_⟩,rfl,rfl⟩:=hc
  have h5:=hcell i j (by rw [List.length_map] at NS;omega) hjl
  rw [Nat.zero_add,World.cell?_alloc_new,N_ i j _ hxi hjl] at h5
  exact (P0 i tv _ hi hxi).2 j c _ hj h5
theorem fX.S1 {n:Nat} {parts:Array (Nat×Operand)} (ho:o.op= .buildSlice t n parts) {k:Nat} (hd:o.dst=some k) {xs:List Operand} (hp:parts.toList=(xs.zipIdx 0).map fun x=>(x.2,x.1)) (hn:xs.length=n)
  {cZ:List TV} (hx:T.xK 0 st xs=some cZ) (hu:P.underlying t=some (.slice e)) {sz:Nat} (hs:jm P e=some sz) {zv:Value} (hz:(P.info? e).bind (·.zero)=some zv)
  (SX:cZ.all (yB sz)=true) (hsz:0 < sz) (Wm:n * sz ≤ 16777216) (hq:Q ((st.renew [k] k ⟨false,[.own (.sl sz (cZ.map lz))]⟩).put (some k) (.one (.c (.ref ⟨k,[],0⟩))))) (hkp:k < 1000000:=by decide):
  fX P w0 g0 o st Q:=fun a w g hR K Q' hK=>by
 obtain ⟨cells,g',hrun,hU,LU,hS,_⟩:=hR.built ho hp hn k hkp hx hu hs hz SX hsz Wm
 unfold Oper.wp
 rw [hrun]
 refine hK _ _ _ g' hq ?_
 rw [hd]
 exact hU.put (yA LU.symm rfl) (some k)
theorem fX.Oa (ho:o.op= .buildSlice t 1 #[(0,x)]) {k:Nat} (hd:o.dst=some k) {tv:TV} {z:Nat} (hx:T.cy z st x=some (.one tv)) (hu:P.underlying t=some (.slice e)) {sz:Nat} (hs:jm P e=some sz)
  {zv:Value} (hz:(P.info? e).bind (·.zero)=some zv) (SX:yB sz tv=true) (hsz:0 < sz) (Wm:sz ≤ 16777216) {bD:St}
  (had:St.pu k (jn tv) (C.kill fun pl=>pl.k == k) 0 (st.renew [k] k ⟨false,[.own (.sl sz [lz tv])]⟩)=some bD)
  (hq:Q (bD.put (some k) (.one (.c (.ref ⟨k,[],0⟩))))) (hkp:k < 1000000:=by decide):fX P w0 g0 o st Q:=fun a w g hR K Q' hK=>by
 obtain ⟨cells,g',hrun,hU,LU,hS,fL⟩:=hR.built (xs:=[x]) ho rfl rfl k hkp (z:=z) (cZ:=[tv]) (by simp [T.xK,hx]) hu hs hz (by simp [SX]) hsz (by omega)
 have hA:oD w g (w.alloc (.cells cells e)) g' (fun pl=>pl.k == k) (fun pl=>pl.k == k):=⟨hS.ro,fun pl hp=>by rw [hS.cv pl.k (by simpa using hp)],fun pl hp=>by rw [hS.ad pl.k (by simpa using hp)]⟩
 obtain ⟨g2,Cj,SW⟩:=Rel.pu hU had fun i c hi=>by
  rw [Nat.zero_add]
  exact (fL 0 tv rfl i c hi).kill hA
 unfold Oper.wp
 rw [hrun]
 refine hK _ _ _ g2 hq ?_
 rw [hd]
 exact Cj.put (yA (by rw [SW];exact LU.symm) rfl) (some k)
theorem fX.S2 (ho:o.op= .buildSlice t 0 #[]) {k:Nat} (hd:o.dst=some k) (hu:P.underlying t=some (.slice e)) {sz:Nat} (hs:jm P e=some sz)
  (hq:Q ((st.renew [k] k ⟨false,[.own (.sl sz [])]⟩).put (some k) (.one (.c (.ref ⟨k,[],0⟩))))) (hkp:k < 1000000:=by decide):fX P w0 g0 o st Q:=fun a w g hR K Q' hK=>by
 obtain ⟨g',hU,LU,_⟩:=hR.slice (k:=k) hkp (cells:= #[]) (e:=e) (sz:=sz) (n:=0) (c:=0) (ds:=[]) rfl (Nat.zero_le _) (Nat.le_refl _) (by omega) (by simp) (fun d hd=>by cases hd) (fun i d hd=>by simp at hd)
 unfold Oper.wp
 have hrun:(execOp a.eval o).run P w= .ok (.value (.slice (some ⟨w.heap.size,0,none⟩) 0 0)) (w.alloc (.cells #[] e)):=by
  simp [execOp,ho,Instr.buildSlice,run_underlying hu,cU hs,Instr.fill,newRow,Array.range_zero']
 rw [hrun]
 refine hK _ _ _ g' hq ?_
 rw [hd]
 exact hU.put (yA LU.symm rfl) (some k)
end
section
variable {P:Program} {w0:World} {g0:Gh} {st:St} {a:Act} {w w':World} {g g':Gh}
variable {o:Oper} {Q:St→Prop} {x y:Operand} {t t2 e e2:TypeId}
def sP (w:World) (v:Value) (sz m:Nat) (news:List Value):Prop:=
 news.length=m * sz∧((∃ ad c,v= .slice ad 0 c∧m=0) ∨ ∃ b off c,v= .slice (some ⟨b,off,none⟩) m c∧∀ (j:Nat) u,news[j]? = some u→w.cell? ⟨b,off + j,none⟩=some u)
theorem sP.len {v:Value} {sz m:Nat} {news:List Value} (h:sP w v sz m news) (w1:World):(Builtin.lenOf v).run P w1= .ok m w1:=by
 rcases h.2 with ⟨_,_,rfl,rfl⟩|⟨b,off,c,rfl,_⟩ <;> rfl
theorem sP.first {v:Value} {sz m:Nat} {news:List Value} (h:sP w v sz m news) (w1:World) (hw:∀ ad,w1.cell? ad=w.cell? ad):(Builtin.firstCells sz m v).run P w1= .ok news.toArray w1:=by
 rcases h.2 with ⟨ad,c,rfl,rfl⟩|⟨b,off,c,rfl,hc⟩
 have:news=[]:=List.eq_nil_of_length_eq_zero (by rw [h.1];simp)
 subst this
 cases ad with
 | none=>rfl
 | some a=>exact run_firstCells_some (P:=P) w1 sz 0 a 0 c [] (by simp) (fun j u hu=>by simp at hu)
 exact run_firstCells_some (P:=P) w1 sz m ⟨b,off,none⟩ m c news h.1 (fun j u hu=>by rw [Addr.add_lit,hw];exact hc j u hu)
theorem Ow.src {k:Nat} {p:List (Nat×Nat)} {q sz:Nat} {ds:List D} (h:Ow w g k p q (.sl sz ds)):
  sP w (g.cv k p q) sz ds.length ((List.range (ds.length * sz)).map fun t=>g.cv k (p ++ [(q,t / sz)]) (t % sz)):=by
 cases h with
 | nil _ _ _ hc=>exact ⟨by simp, .inl ⟨_,_,hc,rfl⟩⟩
 | sl _ _ _ _ b off n c cs ty hc hn hm hnc uA ho hb hfit hrow had hcell hel=>
  refine ⟨by simp, .inr ⟨b,off,c,by rw [hc,hn],fun j u hu=> ?_⟩⟩
  rw [List.getElem?_map,Option.map_eq_some_iff] at hu
  obtain ⟨t,ht,rfl⟩:=hu
  have hjl:j < ds.length * sz:=by
   have:=(List.getElem?_eq_some_iff.1 ht).1
   simpa using this
  rw [List.getElem?_range hjl] at ht
  simp only [Option.some.injEq] at ht
  subst ht
  have hsz:0 < sz:=Nat.pos_of_ne_zero (fun e=>by subst e;simp at hjl)
  have h1:j / sz < n:=by rw [← hn];exact Nat.div_lt_of_lt_mul (by rw [Nat.mul_comm];exact hjl)
  have h2:j % sz < sz:=Nat.mod_lt _ hsz
  have h3:=hcell _ _ h1 h2
  rw [Nat.add_assoc,show j / sz * sz + j % sz=j by rw [Nat.mul_comm];exact Nat.div_add_mod j sz] at h3
  exact h3
theorem Ow.dst {k:Nat} {p:List (Nat×Nat)} {q sz:Nat} {ds:List D} (h:Ow w g k p q (.sl sz ds)):
  (g.cv k p q= .slice none 0 0∧ds.length=0∧(none:Option Nat)=none) ∨ ∃ b off c cs e0,g.cv k p q= .slice (some ⟨b,off,none⟩) ds.length c∧g.o b= .cQ k p q∧ds.length ≤ c∧c ≤ 9223372036854775807∧
   w.heap[b]? = some (.cells cs e0 (0,0))∧off + c * sz ≤ cs.size:=by
 cases h with
 | nil _ _ _ hc=>exact .inl ⟨hc,rfl,rfl⟩
 | sl _ _ _ _ b off n c cs ty hc hn hm hnc uA ho hb hfit hrow had hcell hel=>exact .inr ⟨b,off,c,cs,ty,by rw [hc,hn],ho,by rw [hn];exact hnc,uA,hb,hfit⟩
theorem S3 {i j sz:Nat} (hj:j < sz):(i * sz + j) / sz=i∧(i * sz + j) % sz=j:=by
 constructor
 rw [Nat.add_comm,Nat.add_mul_div_right _ _ (by omega),Nat.div_eq_of_lt hj,Nat.zero_add]
 rw [Nat.add_comm,Nat.add_mul_mod_self_right,Nat.mod_eq_of_lt hj]
theorem JJ {i j n sz:Nat} (hi:i < n) (hj:j < sz):i * sz + j < n * sz:=by
 have:(i + 1) * sz ≤ n * sz:=Nat.mul_le_mul_right _ hi
 rw [Nat.add_mul] at this
 omega
theorem Rel.LW (hR:Rel w0 g0 st a w g) {k k1:Nat} (hkp:k < 1000000) {src:Option Nat} {r1:Rt} (hk1:st.root k1=some r1) (Yd:r1.mem=false) {sz:Nat} {ds ns:List D} (Ii:r1.row=[.own (.sl sz ds)])
  (eT:∀ k2,src=some k2→k2 ≠ k1) {v:Value} {news:List Value} (hsrc:sP w v sz ns.length news) (h1:∀ u ∈ news,u.oneCell'=true) (PV:∀ d ∈ ns,d.row.length=sz)
  (hnew:∀ (i:Nat) d,ns[i]? = some d→∀ (j:Nat) c,d.row[j]? = some c→Rl w g src i j (news.getD (i * sz + j) undef) c)
  (ht:P.underlying t=some (.slice e)) (Ih:P.underlying t2=some (.slice e2)) {i:TypeInfo} {z:Value} {bytes:Nat} (hi:P.info? e=some i) (hz:i.zero=some z) (hsz:i.size=sz) (hby:i.bytes=bytes)
  (hzs:z.cells.size=sz) (PU:ds.length + ns.length ≤ most) (hbytes:(ds.length + ns.length) * bytes ≤ 140737488355328) (ty:TypeId):
  ∃ v' w' g',(Builtin.append_ #[t,t2] ty #[g.cv k1 [] 0,v]).run P w= .ok v' w'∧v'.oneCell'=true∧Rel w0 g0 (st.renew (k :: k1 :: src.toList) k ⟨false,[.own (.sl sz (ds ++ ns))]⟩) a w' g'∧g'.cv k [] 0=v':=by
 have hO:Ow w g k1 [] 0 (.sl sz ds):=hR.rt.cell k1 r1 hk1 0 (.own (.sl sz ds)) (by rw [Ii];rfl)
 have hs:=hO.src
 have hmax:ds.length + ns.length ≤ 9223372036854775807:=by simp only [most] at PU;omega
 have main:∀ xG,((g.cv k1 [] 0= .slice none 0 0∧ds.length=0∧xG=none) ∨ ∃ b off c cs e0,g.cv k1 [] 0= .slice (some ⟨b,off,none⟩) ds.length c∧xG=some b∧ds.length ≤ c∧c ≤ 9223372036854775807∧
   w.heap[b]? = some (.cells cs e0 (0,0))∧off + c * sz ≤ cs.size∧
   (∀ j u,((List.range (ds.length * sz)).map fun t=>g.cv k1 ([] ++ [(0,t / sz)]) (t % sz))[j]? = some u→w.cell? ⟨b,off + j,none⟩=some u))→(∀ b,xG=some b→g.o b= .cQ k1 [] 0)→
   ∃ v' w' g',(Builtin.append_ #[t,t2] ty #[g.cv k1 [] 0,v]).run P w= .ok v' w'∧v'.oneCell'=true∧Rel w0 g0 (st.renew (k :: k1 :: src.toList) k ⟨false,[.own (.sl sz (ds ++ ns))]⟩) a w' g'∧g'.cv k [] 0=v':=by
  intro xG hv hob
  obtain ⟨v',w',hrun,hA⟩:=JE (P:=P) (w:=w) (ty:=ty) ht Ih hi hz hsz hby hzs (xG:=xG) (n:=ds.length) (m:=ns.length) hs.1 hsrc.1 h1 hv hsrc.len hsrc.first hmax hbytes
  obtain ⟨g',hU,fL⟩:=hR.append (k:=k) hkp hk1 Yd Ii eT hA PU hob hs.1 (fun i j hi hj=>by
   rw [List.getElem?_map,List.getElem?_range (JJ hi hj)]
   simp [S3 hj]) hsrc.1 PV hnew (.inr trivial)
  refine ⟨v',w',g',hrun, ?_,hU,fL⟩
  rcases hA.res with ⟨rfl,_⟩|⟨b,off,c,cs,e0,rfl,_⟩ <;> rfl
 rcases hO.dst with ⟨h2,h3,_⟩|⟨b,off,c,cs,e0,h2,h3,h4,h5,h6,h7⟩
 exact main none (.inl ⟨h2,h3,rfl⟩) (fun b hb=>by cases hb)
 refine main (some b) (.inr ⟨b,off,c,cs,e0,h2,rfl,h4,h5,h6,h7,fun j u hu=> ?_⟩) (fun b' hb=>by simp only [Option.some.injEq] at hb;subst hb;exact h3)
 rcases hs.2 with ⟨_,_,_,h80⟩|⟨b',off',c',h8,h9⟩
 rw [h80,Nat.zero_mul] at hu;simp at hu
 rw [h2] at h8
 simp only [Value.slice.injEq,Option.some.injEq,Addr.mk.injEq] at h8
 obtain ⟨⟨rfl,rfl,_⟩,_,_⟩:=h8
 exact h9 j u hu
theorem S4 {k:Nat} {p:List (Nat×Nat)} {q:Nat} {d:D} (h:Ow w g k p q d) (hd:d ≠ .hole):(g.cv k p q).oneCell'=true:=by
 cases h with
 | v _ _ x hx hc=>rw [hc];cases x <;> first|rfl|cases hx
 | hole=>exact absurd rfl hd
 | nil _ _ _ hc=>rw [hc];rfl
 | sl _ _ _ _ b off n c cs ty hc=>rw [hc];rfl
theorem fX.append (ho:o.op= .call { callee:= .builtin .append,args:= #[x,y],argTypes:= #[t,t2] }) {k:Nat} (hd:o.dst=some k) {k1 k2:Nat} (hx:T.cy 0 st x=some (.one (.c (.ref ⟨k1,[],0⟩))))
  (hy:T.cy 0 st y=some (.one (.c (.ref ⟨k2,[],0⟩)))) {sz:Nat} {ds ns:List D} (h1:st.root k1=some ⟨false,[.own (.sl sz ds)]⟩) (h2:st.root k2=some ⟨false,[.own (.sl sz ns)]⟩) (hne:k2 ≠ k1)
  (hnh:∀ d ∈ ns,∀ c ∈ d.row,c ≠ .hole) (ht:P.underlying t=some (.slice e)) (Ih:P.underlying t2=some (.slice e2)) {i:TypeInfo} {z:Value} {bytes:Nat} (hi:P.info? e=some i) (hz:i.zero=some z)
  (hsz:i.size=sz) (hby:i.bytes=bytes) (hzs:z.cells.size=sz) (hlen:ds.length + ns.length ≤ most) (hbytes:(ds.length + ns.length) * bytes ≤ 140737488355328)
  (hq:Q ((st.renew [k,k1,k2] k ⟨false,[.own (.sl sz (ds ++ ns))]⟩).put (some k) (.one (.c (.ref ⟨k,[],0⟩))))) (hkp:k < 1000000:=by decide):fX P w0 g0 o st Q:=fun a w g hR K Q' hK=>by
 have Yg:Ow w g k2 [] 0 (.sl sz ns):=hR.rt.cell k2 _ h2 0 (.own (.sl sz ns)) rfl
 have NT:=Yg.src
 have P1:∀ d ∈ ns,d.row.length=sz:=by
  cases Yg with
  | nil=>intro d hd;cases hd
  | sl _ _ _ _ b off n c cs ty hc hn hm hnc uA ho hb hfit hrow had hcell hel=>exact hrow
 have hnewc:∀ (i:Nat) d,ns[i]? = some d→∀ (j:Nat) c,d.row[j]? = some c→
   Rl w g (some k2) i j (((List.range (ns.length * sz)).map fun t=>g.cv k2 ([] ++ [(0,t / sz)]) (t % sz)).getD (i * sz + j) undef) c:=fun i d hd j c hj=>by
  have hjl:j < sz:=by rw [← P1 d (List.mem_of_getElem? hd)];exact (List.getElem?_eq_some_iff.1 hj).1
  have NS:i < ns.length:=(List.getElem?_eq_some_iff.1 hd).1
  refine ⟨?_,(Yg.row hd).own j c hj⟩
  rw [List.getD,List.getElem?_map,List.getElem?_range (JJ NS hjl)]
  simp [S3 hjl]
 obtain ⟨v',w',g',hrun,hone,hU,fL⟩:=hR.LW (k:=k) hkp (src:=some k2) h1 rfl rfl (fun k' hk'=>by simp only [Option.some.injEq] at hk';subst hk';exact hne) NT (fun u hu=>by
  obtain ⟨t',ht',rfl⟩:=List.mem_map.1 hu
  have LG:t' < ns.length * sz:=by simpa using ht'
  have JK:0 < sz:=Nat.pos_of_ne_zero (fun e=>by subst e;simp at LG)
  have NS:t' / sz < ns.length:=Nat.div_lt_of_lt_mul (by rw [Nat.mul_comm];exact LG)
  have pH:=List.getElem?_eq_getElem NS
  have hjl:t' % sz < (ns[t' / sz]).row.length:=by rw [P1 _ (List.mem_of_getElem? pH)];exact Nat.mod_lt _ JK
  have hj':=List.getElem?_eq_getElem hjl
  exact S4 ((Yg.row pH).own _ _ hj') (hnh _ (List.mem_of_getElem? pH) _ (List.mem_of_getElem? hj'))) P1 hnewc ht Ih hi hz hsz hby hzs hlen hbytes o.type
 have SO:a.eval x=g.cv k1 [] 0:=by
  have:=hR.cy hx
  generalize a.eval x=u at this
  cases this with
  | one _ _ h=>cases h with|c _ _ h=>exact h.1
 have Y0:a.eval y=g.cv k2 [] 0:=by
  have:=hR.cy hy
  generalize a.eval y=u at this
  cases this with
  | one _ _ h=>cases h with|c _ _ h=>exact h.1
 unfold Oper.wp
 have LX:(execOp a.eval o).run P w= .ok (.value v') w':=by
  simp [execOp,ho,resolve,invoke,builtin,SO,Y0,hrun]
 rw [LX]
 refine hK _ _ _ g' hq ?_
 rw [hd]
 exact hU.put (yA fL.symm hone) (some k)
def jY:D→Value
 | .v x=>x
 | _=>undef
def cX (d:D):List Value:=d.row.map jY
def gZ (d:D):Prop:=∀ c ∈ d.row,∃ x,c= .v x
theorem nK {sz:Nat}:∀ {ns:List D},(∀ d ∈ ns,d.row.length=sz)→(ns.flatMap cX).length=ns.length * sz∧∀ (i:Nat) d,ns[i]? = some d→∀ (j:Nat) c,d.row[j]? = some c→(ns.flatMap cX)[i * sz + j]? = some (jY c)
 | [],_=>⟨by simp,fun i d hd=>by simp at hd⟩
 | d0 :: ns,h=>by
  have ih:=nK (ns:=ns) (fun d hd=>h d (List.mem_cons_of_mem _ hd))
  have h0:(cX d0).length=sz:=by simp [cX,h d0 List.mem_cons_self]
  refine ⟨by rw [List.flatMap_cons,List.length_append,ih.1,h0,List.length_cons,Nat.add_mul];omega,fun i d hd j c hj=> ?_⟩
  cases i with
  | zero=>
   simp only [List.getElem?_cons_zero,Option.some.injEq] at hd
   subst hd
   have hjl:=(List.getElem?_eq_some_iff.1 hj).1
   rw [List.flatMap_cons,Nat.zero_mul,Nat.zero_add,List.getElem?_append_left (by rw [h0, ← h d0 List.mem_cons_self];exact hjl)]
   simp [cX,hj]
  | succ i=>
   have:=ih.2 i d (by simpa using hd) j c hj
   rw [List.flatMap_cons,List.getElem?_append_right (by rw [h0,Nat.add_mul];omega),h0, ← this]
   congr 1
   rw [Nat.add_mul]
   omega
theorem G8 {sz:Nat} {ds:List D} {v:Value} (h:Ro w g.o (.sl sz ds) v) (hp:∀ d ∈ ds,gZ d):sP w v sz ds.length (ds.flatMap cX)∧(∀ d ∈ ds,d.row.length=sz)∧
  ∀ d ∈ ds,∀ c ∈ d.row,plain (jY c)=true:=by
 cases h with
 | nil _ ad c=>exact ⟨⟨by simp, .inl ⟨ad,c,rfl,rfl⟩⟩,(fun d hd=>by cases hd),(fun d hd=>by cases hd)⟩
 | sl _ _ b off n c us hn hm hnc hro hrow hcell hel=>
  have hf:=nK hrow
  refine ⟨⟨hf.1, .inr ⟨b,off,c,by rw [hn],fun j u hu=> ?_⟩⟩,hrow,fun d hd c' Cf=> ?_⟩
  have hjl:j < ds.length * sz:=by rw [← hf.1];exact (List.getElem?_eq_some_iff.1 hu).1
  have JK:0 < sz:=Nat.pos_of_ne_zero (fun e=>by subst e;simp at hjl)
  have NS:j / sz < ds.length:=Nat.div_lt_of_lt_mul (by rw [Nat.mul_comm];exact hjl)
  have pH:=List.getElem?_eq_getElem NS
  have hrl:j % sz < (ds[j / sz]).row.length:=by rw [hrow _ (List.mem_of_getElem? pH)];exact Nat.mod_lt _ JK
  have hj':=List.getElem?_eq_getElem hrl
  have h1:=hf.2 _ _ pH _ _ hj'
  have h2:=hel _ _ pH _ _ hj'
  have hdm:j / sz * sz + j % sz=j:=by rw [Nat.mul_comm];exact Nat.div_add_mod j sz
  rw [hdm] at h1 h2
  obtain ⟨x,hx⟩:=hp _ (List.mem_of_getElem? pH) _ (List.mem_of_getElem? hj')
  rw [hx] at h1 h2
  rw [hu] at h1
  simp only [jY,Option.some.injEq] at h1
  subst h1
  rw [hcell j (by rw [← hn];exact hjl)]
  generalize us j=y at h2
  cases h2 with
  | v _ _=>rfl
  obtain ⟨i,hi⟩:=List.getElem?_of_mem hd
  obtain ⟨j,hj⟩:=List.getElem?_of_mem Cf
  have h2:=hel i d hi j c' hj
  obtain ⟨x,hx⟩:=hp d hd c' Cf
  subst hx
  cases h2 with
  | v _ h=>exact h
theorem G9 {k:Nat} {p:List (Nat×Nat)} {q sz:Nat} {ds:List D} (h:Ow w g k p q (.sl sz ds)) (hp:∀ d ∈ ds,gZ d):sP w (g.cv k p q) sz ds.length (ds.flatMap cX)∧(∀ d ∈ ds,d.row.length=sz)∧
  ∀ d ∈ ds,∀ c ∈ d.row,plain (jY c)=true:=by
 have hs:=h.src
 have hO:=h
 cases h with
 | nil _ _ _ hc=>exact ⟨⟨by simp, .inl ⟨_,_,hc,rfl⟩⟩,(fun d hd=>by cases hd),(fun d hd=>by cases hd)⟩
 | sl _ _ _ _ b off n c cs ty hc hn hm hnc uA ho hb hfit hrow had hcell hel=>
  have hf:=nK hrow
  refine ⟨⟨hf.1, .inr ⟨b,off,c,by rw [hc,hn],fun j u hu=> ?_⟩⟩,hrow,fun d hd c' Cf=> ?_⟩
  have hjl:j < ds.length * sz:=by rw [← hf.1];exact (List.getElem?_eq_some_iff.1 hu).1
  have JK:0 < sz:=Nat.pos_of_ne_zero (fun e=>by subst e;simp at hjl)
  have NS:j / sz < ds.length:=Nat.div_lt_of_lt_mul (by rw [Nat.mul_comm];exact hjl)
  have pH:=List.getElem?_eq_getElem NS
  have hrl:j % sz < (ds[j / sz]).row.length:=by rw [hrow _ (List.mem_of_getElem? pH)];exact Nat.mod_lt _ JK
  have hj':=List.getElem?_eq_getElem hrl
  have h1:=hf.2 _ _ pH _ _ hj'
  have h2:=hel _ _ pH _ _ hj'
  have hdm:j / sz * sz + j % sz=j:=by rw [Nat.mul_comm];exact Nat.div_add_mod j sz
  rw [hdm] at h1
  obtain ⟨x,hx⟩:=hp _ (List.mem_of_getElem? pH) _ (List.mem_of_getElem? hj')
  rw [hx] at h1 h2
  rw [hu] at h1
  simp only [jY,Option.some.injEq] at h1
  subst h1
  have h3:=hcell _ _ (by rw [← hn];exact NS) (Nat.mod_lt j JK)
  rw [Nat.add_assoc,hdm] at h3
  rw [h3]
  cases h2 with
  | v _ _ _ _ he=>rw [he]
  obtain ⟨i,hi⟩:=List.getElem?_of_mem hd
  obtain ⟨j,hj⟩:=List.getElem?_of_mem Cf
  have h2:=hel i d hi j c' hj
  obtain ⟨x,hx⟩:=hp d hd c' Cf
  subst hx
  cases h2 with
  | v _ _ _ h _=>exact h
theorem JL {k:Nat} {p:List (Nat×Nat)} {q sz lo hi b off n c:Nat} {ds:List D} (h:Ow w g k p q (.sl sz ds)) (fL:g.cv k p q= .slice (some ⟨b,off,none⟩) n c) (h1:lo < hi) (h2:hi ≤ n)
  (hp:∀ d ∈ (ds.take hi).drop lo,gZ d):sP w (.slice (some ⟨b,off + lo * sz,none⟩) (hi - lo) (c - lo)) sz ((ds.take hi).drop lo).length (((ds.take hi).drop lo).flatMap cX)∧(∀ d ∈ (ds.take hi).drop lo,d.row.length=sz)∧
  ∀ d ∈ (ds.take hi).drop lo,∀ c ∈ d.row,plain (jY c)=true:=by
 cases h with
 | nil _ _ _ hc=>rw [hc] at fL;cases fL
 | sl _ _ _ _ b' off' n' c' cs ty hc hn hm hnc uA ho hb hfit hrow had hcell hel=>
  rw [hc] at fL
  simp only [Value.slice.injEq,Option.some.injEq,Addr.mk.injEq] at fL
  obtain ⟨⟨rfl,rfl,_⟩,rfl,rfl⟩:=fL
  have hlen:((ds.take hi).drop lo).length=hi - lo:=by simp;omega
  have Ig:∀ d ∈ (ds.take hi).drop lo,d.row.length=sz:=fun d hd=>hrow d (List.mem_of_mem_take (List.mem_of_mem_drop hd))
  have N_:∀ i d,((ds.take hi).drop lo)[i]? = some d→ds[lo + i]? = some d:=fun i d hi'=>by
   rw [List.getElem?_drop,List.getElem?_take] at hi'
   split at hi'
   exact hi'
   cases hi'
  have hf:=nK Ig
  refine ⟨⟨hf.1, .inr ⟨b',off' + lo * sz,c' - lo,by rw [hlen],fun j u hu=> ?_⟩⟩,Ig,fun d hd c1 xF=> ?_⟩
  have hjl:j < ((ds.take hi).drop lo).length * sz:=by rw [← hf.1];exact (List.getElem?_eq_some_iff.1 hu).1
  have JK:0 < sz:=Nat.pos_of_ne_zero (fun e=>by subst e;simp at hjl)
  have NS:j / sz < ((ds.take hi).drop lo).length:=Nat.div_lt_of_lt_mul (by rw [Nat.mul_comm];exact hjl)
  have pH:=List.getElem?_eq_getElem NS
  have hrl:j % sz < (((ds.take hi).drop lo)[j / sz]).row.length:=by rw [Ig _ (List.mem_of_getElem? pH)];exact Nat.mod_lt _ JK
  have hj':=List.getElem?_eq_getElem hrl
  have h3:=hf.2 _ _ pH _ _ hj'
  have h4:=hel _ _ (N_ _ _ pH) _ _ hj'
  have hdm:j / sz * sz + j % sz=j:=by rw [Nat.mul_comm];exact Nat.div_add_mod j sz
  rw [hdm] at h3
  obtain ⟨x,hx⟩:=hp _ (List.mem_of_getElem? pH) _ (List.mem_of_getElem? hj')
  rw [hx] at h3 h4
  rw [hu] at h3
  simp only [jY,Option.some.injEq] at h3
  subst h3
  have h5:=hcell (lo + j / sz) _ (by rw [hlen] at NS;omega) (Nat.mod_lt j JK)
  rw [show off' + lo * sz + j=off' + (lo + j / sz) * sz + j % sz by rw [Nat.add_mul];omega,h5]
  cases h4 with
  | v _ _ _ _ he=>rw [he]
  obtain ⟨i,hi'⟩:=List.getElem?_of_mem hd
  obtain ⟨j,hj⟩:=List.getElem?_of_mem xF
  have h3:=hel _ d (N_ i d hi') j c1 hj
  obtain ⟨x,hx⟩:=hp d hd c1 xF
  subst hx
  cases h3 with
  | v _ _ _ h _=>exact h
theorem Rel.Bm (hR:Rel w0 g0 st a w g) {tv:TS} {sz:Nat} {ns:List D} (h2:lu st tv=some (sz,ns)) (oF:∀ d ∈ ns,gZ d) {v:Value} (hv:dy w g tv v):
  sP w v sz ns.length (ns.flatMap cX)∧(∀ d ∈ ns,d.row.length=sz)∧∀ d ∈ ns,∀ c ∈ d.row,plain (jY c)=true:=by
 unfold lu at h2
 split at h2
 simp only [Option.some.injEq,Prod.mk.injEq] at h2
 obtain ⟨rfl,rfl⟩:=h2
 cases hv with
 | one _ _ h=>cases h with|c _ _ h=>exact G8 h oF
 rename_i pl
 split at h2
 rename_i sz' ds' hc
 simp only [Option.some.injEq,Prod.mk.injEq] at h2
 obtain ⟨rfl,rfl⟩:=h2
 cases hv with
 | one _ _ h=>
  cases h with
  | c _ _ h=>
   have h3:v=g.cv pl.k pl.p pl.q:=h.1
   rw [h3]
   exact G9 ((hR.cellAt hc).1 _ rfl) oF
 cases h2
 rename_i pl sz1 lo hi
 split at h2
 rename_i s' ds' hc
 split at h2
 rename_i zK
 subst zK
 simp only [Option.some.injEq,Prod.mk.injEq] at h2
 obtain ⟨rfl,rfl⟩:=h2
 cases hv with
 | one _ _ h=>
  cases h with
  | cut _ _ _ _ b off n c fL h5 h6 h7=>exact JL ((hR.cellAt hc).1 _ rfl) fL h5 h6 oF
 cases h2
 cases h2
 cases h2
theorem fX.Wn (ho:o.op= .call { callee:= .builtin .append,args:= #[x,y],argTypes:= #[t,t2] }) {k:Nat} (hd:o.dst=some k) {k1:Nat} {tv:TS} (hx:T.cy 0 st x=some (.one (.c (.ref ⟨k1,[],0⟩))))
  {sz:Nat} (hy:T.cy sz st y=some tv) {ds ns:List D} (h1:st.root k1=some ⟨false,[.own (.sl sz ds)]⟩) (h2:lu st tv=some (sz,ns)) (oF:∀ d ∈ ns,gZ d)
  (ht:P.underlying t=some (.slice e)) (Ih:P.underlying t2=some (.slice e2)) {i:TypeInfo} {z:Value} {bytes:Nat} (hi:P.info? e=some i) (hz:i.zero=some z)
  (hsz:i.size=sz) (hby:i.bytes=bytes) (hzs:z.cells.size=sz) (hlen:ds.length + ns.length ≤ most) (hbytes:(ds.length + ns.length) * bytes ≤ 140737488355328)
  (hq:Q ((st.renew [k,k1] k ⟨false,[.own (.sl sz (ds ++ ns))]⟩).put (some k) (.one (.c (.ref ⟨k,[],0⟩))))) (hkp:k < 1000000:=by decide):fX P w0 g0 o st Q:=fun a w g hR K Q' hK=>by
 have hsrc:=hR.Bm h2 oF (hR.cy hy)
 obtain ⟨hs1,NT,hs3⟩:=hsrc
 have hf:=nK NT
 obtain ⟨v',w',g',hrun,hone,hU,fL⟩:=hR.LW (k:=k) hkp (src:=none) h1 rfl rfl (fun k' hk'=>by cases hk') hs1 (fun u hu=>by
  obtain ⟨d,hd,hu⟩:=List.mem_flatMap.1 hu
  obtain ⟨c,hc,rfl⟩:=List.mem_map.1 hu
  have:=hs3 d hd c hc
  cases Ch:jY c <;> first|rfl|(rw [Ch] at this;cases this)) NT (fun i d hd j c hj=>by
  obtain ⟨x,hx⟩:=oF d (List.mem_of_getElem? hd) c (List.mem_of_getElem? hj)
  have h3:=hf.2 i d hd j c hj
  have h4:=hs3 d (List.mem_of_getElem? hd) c (List.mem_of_getElem? hj)
  rw [List.getD,h3]
  subst hx
  exact ⟨rfl,h4⟩) ht Ih hi hz hsz hby hzs hlen hbytes o.type
 have SO:a.eval x=g.cv k1 [] 0:=by
  have:=hR.cy hx
  generalize a.eval x=u at this
  cases this with
  | one _ _ h=>cases h with|c _ _ h=>exact h.1
 unfold Oper.wp
 have LX:(execOp a.eval o).run P w= .ok (.value v') w':=by
  simp [execOp,ho,resolve,invoke,builtin,SO,hrun]
 rw [LX]
 refine hK _ _ _ g' hq ?_
 rw [hd]
 exact hU.put (yA fL.symm hone) (some k)
theorem fX.Wo (ho:o.op= .move (.const (.slice none 0 0)) ∨ o.op= .assign (.const (.slice none 0 0))) {k:Nat} (hd:o.dst=some k) (sz:Nat)
  (hq:Q ((st.renew [k] k ⟨false,[.own (.sl sz [])]⟩).put (some k) (.one (.c (.ref ⟨k,[],0⟩))))) (hkp:k < 1000000:=by decide):fX P w0 g0 o st Q:=fun a w g hR K Q' hK=>by
 have yy:cm ≠ k:=by simp only [cm];omega
 let g':Gh:={ g with cv:=fun k'=>if k'=k then fun _ _=> .slice none 0 0 else g.cv k' }
 have hS:nw w g w g' (fun k'=>([k]:List Nat).contains k'=false):=⟨fun b hb=>⟨hb,rfl⟩,fun _ _ b _=>⟨rfl,rfl⟩,fun _ _=>rfl,fun k' hk'=>if_neg (fun e=>by subst e;simp at hk')⟩
 have hU:Rel w0 g0 (st.renew [k] k ⟨false,[.own (.sl sz [])]⟩) a w g':=by
  refine hR.renew (by simp) hS ⟨hR.ks.os,hR.ks.tape,hR.ks.output,hR.ks.size,hR.ks.block,hR.ks.fresh,hR.ks.old,⟨fun q=>(by simp only [g',if_neg yy];exact hR.ks.uB.1 q),hR.ks.uB.2⟩,hR.ks.ie⟩ (fun q c hq=> ?_) rfl
  cases q with
  | succ q=>simp at hq
  | zero=>
   simp only [List.getElem?_cons_zero,Option.some.injEq] at hq
   subst hq
   exact Ow.nil [] 0 sz (by simp [g'])
 have hrun:(execOp a.eval o).run P w= .ok (.value (.slice none 0 0)) w:=by
  rcases ho with ho|ho <;> simp [execOp,ho,Act.eval]
 unfold Oper.wp
 rw [hrun]
 refine hK _ _ _ g' hq ?_
 rw [hd]
 exact hU.put (yA (by simp [g']) rfl) (some k)
theorem fX.S5 {x:Operand} {t:TypeId} (ho:o.op= .store t x (.const (.slice none 0 0))) {k:Nat} (sz:Nat) {pl:Pl} {c0:C} {bD:St} (hx:T.cy 0 (st.renew [k] k ⟨false,[.own (.sl sz [])]⟩) x=some (.one (.ptr pl))) (ht:jm P t=some 1)
  (hc0:(st.renew [k] k ⟨false,[.own (.sl sz [])]⟩).cellAt pl=some c0) (hm:(st.renew [k] k ⟨false,[.own (.sl sz [])]⟩).gv pl=true) (hs:(st.renew [k] k ⟨false,[.own (.sl sz [])]⟩).dD pl (.ref ⟨k,[],0⟩)=some bD)
  (hq:Q (bD.put o.dst (.one .dead))) (hkp:k < 1000000:=by decide):fX P w0 g0 o st Q:=fun a w g hR K Q' hK=>by
 have yy:cm ≠ k:=by simp only [cm];omega
 let g':Gh:={ g with cv:=fun k'=>if k'=k then fun _ _=> .slice none 0 0 else g.cv k' }
 have hS:nw w g w g' (fun k'=>([k]:List Nat).contains k'=false):=⟨fun b hb=>⟨hb,rfl⟩,fun _ _ b _=>⟨rfl,rfl⟩,fun _ _=>rfl,fun k' hk'=>if_neg (fun e=>by subst e;simp at hk')⟩
 have hU:Rel w0 g0 (st.renew [k] k ⟨false,[.own (.sl sz [])]⟩) a w g':=by
  refine hR.renew (by simp) hS ⟨hR.ks.os,hR.ks.tape,hR.ks.output,hR.ks.size,hR.ks.block,hR.ks.fresh,hR.ks.old,⟨fun q=>(by simp only [g',if_neg yy];exact hR.ks.uB.1 q),hR.ks.uB.2⟩,hR.ks.ie⟩ (fun q c hq=> ?_) rfl
  cases q with
  | succ q=>simp at hq
  | zero=>
   simp only [List.getElem?_cons_zero,Option.some.injEq] at hq
   subst hq
   exact Ow.nil [] 0 sz (by simp [g'])
 have h2:fO w g' (.ref ⟨k,[],0⟩) (.slice none 0 0):=⟨by simp [g'],rfl⟩
 have h1:=hU.cy hx
 generalize SO:a.eval x=vx at h1
 cases h1 with
 | one _ _ h1=>
  cases h1 with
  | ptr _=>
   obtain ⟨g'',hR'',_,_⟩:=hU.dD hc0 hm hs h2
   have xF:=hU.cellAt hc0
   have hone:=h2.one (pI hs)
   have hrun:=mU (P:=P) (u:= .slice none 0 0) hone (xF.2.2.1 hm) (xF.2.2.2 hm).2.choose_spec.choose_spec
   unfold Oper.wp
   have hev:a.eval (.const (.slice none 0 0))= .slice none 0 0:=rfl
   have hx':(execOp a.eval o).run P w= .ok .skip (w.setCell (bg (g'.ad pl.k pl.p) pl.q) (.slice none 0 0)):=by
    simp [execOp,ho,SO,hev,Instr.storeAt,Instr.sureAddr,storeVar,sM hone,cU ht,storeCells,Addr.add_zero',hrun]
   rw [hx']
   exact hK _ _ _ _ hq (hR''.put (.one _ _ (.dead _)) o.dst)
end
section
variable {P:Program} {w0:World} {g0:Gh}
def gw (w:World):World→Prop:=fun w'=>w'.os=w.os∧w'.tape=w.tape∧w'.output=w.output∧w.heap.size ≤ w'.heap.size∧Ext w w'
theorem gw.trans {w w' w'':World} (h:gw w w') (h':gw w' w''):gw w w'':=
 ⟨h'.1.trans h.1,h'.2.1.trans h.2.1,h'.2.2.1.trans h.2.2.1,Nat.le_trans h.2.2.2.1 h'.2.2.2.1,fun b hb=>(h'.2.2.2.2 b (Nat.lt_of_lt_of_le hb h.2.2.2.1)).trans (h.2.2.2.2 b hb)⟩
def Gh.later (g:Gh) (n n':Nat):Gh:={ g with o:=fun b=>if b < n then g.o b else if b < n' then .ro else .outer }
theorem Rel.Rn {st:St} {a:Act} {w w':World} {g:Gh} (hR:Rel w0 g0 st a w g) (h:gw w w'):nw w g w' (g.later w.heap.size w'.heap.size) (fun _=>True):=by
 have hlt:∀ b,g.o b ≠ .outer→b < w.heap.size:=fun b hb=>by
  rcases Nat.lt_or_ge b w.heap.size with h|h
  exact h
  exact absurd (hR.ks.fresh b h) hb
 have ho:∀ b,b < w.heap.size→(g.later w.heap.size w'.heap.size).o b=g.o b:=fun b hb=>if_pos hb
 refine ⟨fun b hb=> ?_,fun k _ b hb=> ?_,fun _ _=>rfl,fun _ _=>rfl⟩
 have:=hlt b (by rw [hb];simp)
 exact ⟨by rw [ho b this];exact hb,h.2.2.2.2 b this⟩
 have:=hlt b (fun e=>by rw [e] at hb;cases hb)
 exact ⟨ho b this,h.2.2.2.2 b this⟩
theorem S6 {t:TS}:t.yt (fun _=>True):=by
 have hC:∀ c:C,c.yt (fun _=>True):=fun c=>by cases c <;> trivial
 have hT:∀ t:TV,t.yt (fun _=>True):=fun t=>by
  cases t with
  | c x=>exact hC x
  | agg cs=>exact fun c _=>hC c
  | CV oC=>exact fun _ _=>trivial
  | o3 oC=>exact fun _ _=>trivial
  | _=>trivial
 cases t with
 | one t=>exact hT t
 | lp ts=>exact fun t _=>hT t
 | fn f ts=>exact fun t _=>hT t
theorem Rel.later {st:St} {a:Act} {w w':World} {g:Gh} (hR:Rel w0 g0 st a w g) (h:gw w w'):Rel w0 g0 st a w' (g.later w.heap.size w'.heap.size):=by
 have hS:=hR.Rn h
 have ho:∀ b,b < w.heap.size→(g.later w.heap.size w'.heap.size).o b=g.o b:=fun b hb=>if_pos hb
 refine ⟨fun i tv hi=>(hR.tm i tv hi).mono hS S6,hR.sz,hR.df,hR.rt.mono hS fun k r hk=>⟨trivial,fun c _=>by cases c <;> trivial⟩, ?_⟩
 have hK:=hR.ks
 refine ⟨h.1.trans hK.os,h.2.1.trans hK.tape,h.2.2.1.trans hK.output,Nat.le_trans hK.size h.2.2.2.1,fun b hb hx=> ?_,fun b hb=> ?_,fun b hb hx=> ?_,hK.uB,fun b hb=> ?_⟩
 have h1:b < w.heap.size:=by have:=hK.size;omega
 rw [ho b h1,h.2.2.2.2 b h1]
 exact hK.block b hb hx
 have h1:¬ b < w.heap.size:=by have:=h.2.2.2.1;omega
 simp only [Gh.later,if_neg h1,if_neg (Nat.not_lt.2 hb)]
 by_cases h1:b < w.heap.size
 rw [ho b h1] at hx
 exact hK.old b h1 hx
 simp only [Gh.later,if_neg h1,if_pos hb] at hx
 cases hx
 by_cases h1:b < w.heap.size
 rw [ho b h1] at hb
 exact hK.ie b hb
 simp only [Gh.later,if_neg h1] at hb
 split at hb <;> cases hb
def TQ (P:Program) (w0:World) (g0:Gh) (ops:Array Oper) (l:List Oper) (st:St) (Q:St→Prop):Prop:=
 ∀ a w g,Rel w0 g0 st a w g→∀ (Q':Act→Prop),(∀ bD a',Q bD→Rel w0 g0 bD a' w g→Q' a')→wpQuiet P ops (gw w) Q' l a
theorem TC.Wp {i:Nat} {ops:Array Oper} {st:St} {Q:Exit→St→Prop} (hm:P.follows .mixedOrders=true) (hB:Region.lexB .any ops=true) (h:TQ P w0 g0 ops ops.toList st (fun bD=>Q .normal bD)):
  TC P w0 g0 (.region i ops true) st Q:=fun a w g hR=>by
 refine wp_region_quiet (C:=gw w) hm hB ⟨rfl,rfl,rfl,Nat.le_refl _,fun _ _=>rfl⟩ (h a w g hR _ fun bD a' hq hU w' CX=>⟨bD,_,hq,hU.later CX⟩)
theorem TQ.nil {ops:Array Oper} {st:St} {Q:St→Prop} (h:Q st):TQ P w0 g0 ops [] st Q:=fun a w g hR Q' hQ=>hQ st a h hR
theorem TQ.val {ops:Array Oper} {o:Oper} {rest:List Oper} {st:St} {Q:St→Prop} {t:TS} (hg:o.guard=none) (h:dQ P w0 g0 o st t) (hq:TQ P w0 g0 ops rest (st.put o.dst t) Q):
  TQ P w0 g0 ops (o :: rest) st Q:=fun a w g hR Q' hQ=>by
 refine wpQuiet_step fun K hK=> ?_
 rw [if_pos (by simp [Region.wanted,hg])]
 obtain ⟨v,hr,hv⟩:=h a w g hR
 refine ⟨v,fun w' CX=> ?_,hK _ (hq _ _ _ (hR.put hv o.dst) Q' hQ)⟩
 unfold Oper.quietAt
 rw [hr w' CX.2.2.2.2]
 exact ⟨rfl,rfl⟩
theorem TQ.mI {ops:Array Oper} {o:Oper} {rest:List Oper} {st:St} {Q:St→Prop} {t:TS} {j:Nat} {want b:Bool} (hg:o.guard=some (j,want)) (hb:guardOf ops st j=some (V (.bool b))) (he:b=want)
  (h:dQ P w0 g0 o st t) (hq:TQ P w0 g0 ops rest (st.put o.dst t) Q):TQ P w0 g0 ops (o :: rest) st Q:=fun a w g hR Q' hQ=>by
 refine wpQuiet_step fun K hK=> ?_
 rw [if_pos (by simp [Region.wanted,hg,yx hR hb,he])]
 obtain ⟨v,hr,hv⟩:=h a w g hR
 refine ⟨v,fun w' CX=> ?_,hK _ (hq _ _ _ (hR.put hv o.dst) Q' hQ)⟩
 unfold Oper.quietAt
 rw [hr w' CX.2.2.2.2]
 exact ⟨rfl,rfl⟩
end
section
variable {P:Program} {w0:World} {g0:Gh} {st:St} {a:Act} {w w':World} {g g':Gh}
variable {o:Oper} {Q:St→Prop} {x y:Operand} {t t2 e e2:TypeId}
theorem Rel.src (hR:Rel w0 g0 st a w g) {tv:TS} {sz:Nat} {ns:List D} (h2:lu st tv=some (sz,ns)) (oF:∀ d ∈ ns,gZ d) {v:Value} (hv:dy w g tv v):
  sP w v sz ns.length (ns.flatMap cX):=by
 exact (hR.Bm h2 oF hv).1
abbrev yC (ns:List Int):List D:=ns.map fun n=>D.v (.int .u8 n)
theorem Ck:∀ ns:List Int,(yC ns).flatMap cX=ns.map (Value.int .u8)
 | []=>rfl
 | n :: ns=>by
  have:=Ck ns
  simp only [yC,List.map_cons,List.flatMap_cons] at this ⊢
  rw [this]
  rfl
theorem JM (ns:List Int):∀ d ∈ yC ns,gZ d:=fun d hd=>by
 obtain ⟨n,_,rfl⟩:=List.mem_map.1 hd
 intro c hc
 simp only [D.row,List.mem_singleton] at hc
 exact ⟨_,hc⟩
theorem dQ.LY (ho:o.op= .convert t t2 x) {tv:TS} {ns:List Int} (hx:T.cy 1 st x=some tv) (hl:lu st tv=some (1,yC ns))
  (ht:P.underlying t=some (.slice e)) (he:P.underlying e=some (.int .u8)) (Ih:P.underlying t2=some .string):dQ P w0 g0 o st (V (.string (strOfNums ns))):=fun a w g hR=>by
 have hs:=hR.src hl (JM ns) (hR.cy hx)
 rw [Ck] at hs
 refine ⟨.string (strOfNums ns),fun w' hw=> ?_,yw rfl⟩
 obtain ⟨hlen,h|⟨b,off,c,hv,hc⟩⟩:=hs
 obtain ⟨ad,cc,hv,hn⟩:=h
 have:ns=[]:=by
  cases ns with
  | nil=>rfl
  | cons=>simp [yC] at hn
 subst this
 cases ad with
 | none=>
  simp only [execOp,ho,hv,Sem.run_bind,run_convert_bytes_string w' t t2 e none 0 cc ht he Ih,Conv.bytesToString,Sem.run_pure,Result.andThen_ok]
  rfl
 | some A=>
  have hrun:=run_bytesToString (P:=P) w' A 0 cc [] (run_loadCells (P:=P) w' A 0 (fun _=>undef) (fun j hj=>absurd hj (Nat.not_lt_zero j)))
  simp only [execOp,ho,hv,Sem.run_bind,run_convert_bytes_string w' t t2 e (some A) 0 cc ht he Ih,hrun,Sem.run_pure,Result.andThen_ok]
  rfl
 simp only [yC,List.length_map] at hv
 have vh:=run_loadCells (P:=P) w' ⟨b,off,none⟩ ns.length (fun j=>(ns.map (Value.int .u8)).getD j undef) (fun j hj=>by
  rw [Addr.add_lit]
  refine hw.cell (hc j _ ?_)
  rw [List.getD_eq_getElem?_getD,List.getElem?_map,List.getElem?_eq_getElem hj]
  rfl)
 have hlist:(List.range ns.length).map (fun j=>(ns.map (Value.int .u8)).getD j undef)=ns.map (Value.int .u8):=by
  apply List.ext_getElem?
  intro i
  rw [List.getElem?_map]
  rcases Nat.lt_or_ge i ns.length with h|h
  rw [List.getElem?_range h,List.getElem?_map,List.getElem?_eq_getElem h]
  simp [h]
  rw [List.getElem?_eq_none (by simpa using h),List.getElem?_eq_none (by simpa using h)]
  rfl
 have hrun:=run_bytesToString (P:=P) w' ⟨b,off,none⟩ ns.length c ns (by rw [vh,hlist])
 simp only [execOp,ho,hv,Sem.run_bind,run_convert_bytes_string w' t t2 e _ _ c ht he Ih,hrun,Sem.run_pure,Result.andThen_ok]
 rw [foldl_push_bytes]
 congr 4
 simp [strOfNums]
end
def zM (k k2:Nat):C→C
 | .ref pl=>if pl.k=k then .ref ⟨k2,pl.p,pl.q⟩ else if pl.k=k2 then .dead else .ref pl
 | .ro d=> .ro d
 | .own d=> .own d
 | .dead=> .dead
def zN (k k2:Nat):TV→TV
 | .c x=> .c (zM k k2 x)
 | .agg cs=> .agg (cs.map (zM k k2))
 | .ptr pl=>if pl.k=k then .ptr ⟨k2,pl.p,pl.q⟩ else if pl.k=k2 then .dead else .ptr pl
 | .CV oC=>if oC.any (fun pl=>pl.k == k || pl.k == k2) then .dead else .CV oC
 | .o3 oC=>if oC.any (fun pl=>pl.k == k || pl.k == k2) then .dead else .o3 oC
 | .cut pl sz lo hi=>if pl.k=k then .cut ⟨k2,pl.p,pl.q⟩ sz lo hi else if pl.k=k2 then .dead else .cut pl sz lo hi
 | .bV ds=> .bV ds
 | .dead=> .dead
def LZ (k k2:Nat):TS→TS
 | .one t=> .one (zN k k2 t)
 | .lp ts=> .lp (ts.map (zN k k2))
 | .fn f ts=> .fn f (ts.map (zN k k2))
def Cl (k k2:Nat):List (Nat×Rt)→List (Nat×Rt)
 | []=>[]
 | (j,r) :: l=>if j=k2∧j ≠ k then Cl k k2 l else (if j=k then k2 else j,⟨r.mem,r.row.map (zM k k2)⟩) :: Cl k k2 l
def St.name (st:St) (k k2:Nat):St:=⟨st.tmps.map (LZ k k2),Cl k k2 st.roots⟩
def Gh.name (g:Gh) (k k2:Nat):Gh where
 o b:=match g.o b with
  | .box j=>if j=k then .box k2 else if j=k2 then .ro else .box j
  | .cQ j p q=>if j=k then .cQ k2 p q else if j=k2 then .ro else .cQ j p q
  | t=>t
 ad j:=if j=k2 then g.ad k else g.ad j
 cv j:=if j=k2 then g.cv k else g.cv j
section
variable {P:Program} {w0:World} {g0:Gh} {st:St} {a:Act} {w:World} {g:Gh} {k k2:Nat}
theorem Rp (st:St) (k k2 j:Nat):(st.name k k2).root j=
  if j=k2 then (st.root k).map (fun r=>⟨r.mem,r.row.map (zM k k2)⟩) else if j=k then none else (st.root j).map (fun r=>⟨r.mem,r.row.map (zM k k2)⟩):=by
 obtain ⟨tm,roots⟩:=st
 simp only [St.root,St.name]
 induction roots with
 | nil=>simp [Cl]
 | cons x l ih=>
  obtain ⟨i,r⟩:=x
  simp only [Cl]
  by_cases h1:i=k2∧i ≠ k
  rw [if_pos h1,ih]
  have hik:(i == k)=false:=by simpa using h1.2
  by_cases hj:j=k2
  simp [hj,List.find?_cons,hik]
  by_cases Em:j=k
  simp [Em,h1.2,hj]
  have:(i == j)=false:=by
   have:i ≠ j:=fun e=>hj (by rw [← e];exact h1.1)
   simpa using this
  simp [hj,Em,List.find?_cons,this]
  rw [if_neg h1,List.find?_cons,List.find?_cons]
  by_cases hik:i=k
  subst hik
  by_cases hj:j=k2
  subst hj
  simp
  by_cases hji:j=i
  subst hji
  have:(k2 == j)=false:=by
   have:k2 ≠ j:=fun e=>hj e.symm
   simpa using this
  simp only [if_true,this,ih,if_neg hj]
  have h2:(k2 == j)=false:=by
   have:k2 ≠ j:=fun e=>hj e.symm
   simpa using this
  have h3:(i == j)=false:=by
   have:i ≠ j:=fun e=>hji e.symm
   simpa using this
  simp only [if_true,h2,ih,if_neg hj,if_neg hji,List.find?_cons,h3]
  have hik2:i ≠ k2:=fun e=>h1 ⟨e,hik⟩
  simp only [if_neg hik]
  have hik':(i == k)=false:=by simpa using hik
  by_cases hj:j=k2
  subst hj
  have h2:(i == j)=false:=by simpa using hik2
  simp only [h2,ih,if_true,hik']
  by_cases Em:j=k
  subst Em
  simp only [hik',ih,if_neg hj,if_true]
  by_cases hij:i=j
  subst hij
  simp [hj,Em]
  have h2:(i == j)=false:=by simpa using hij
  simp only [h2,ih,if_neg hj,if_neg Em,List.find?_cons]
theorem Gh.DF {b:Nat} (h:g.o b= .ro):(g.name k k2).o b= .ro:=by simp [Gh.name,h]
theorem Ro.name {d:D} {v:Value} (h:Ro w g.o d v):Ro w (g.name k k2).o d v:=h.mono fun b hb=>⟨Gh.DF hb,rfl⟩
theorem Ow.name {j:Nat} {p:List (Nat×Nat)} {q:Nat} {d:D} (h:Ow w g j p q d) (hj:j=k ∨ j ≠ k2):Ow w (g.name k k2) (if j=k then k2 else j) p q d:=by
 refine Ow.move h ⟨?_,fun i r q'=> ?_,fun i r=> ?_,fun b hb=>⟨?_,rfl⟩,fun b i r q' hb=>⟨?_,rfl⟩⟩
 all_goals
  by_cases Em:j=k
  ·subst Em;simp [Gh.name, *]
  ·have hj2:j ≠ k2:=hj.resolve_left Em
   simp [Gh.name,Em,hj2, *]
theorem fO.name {c:C} {u:Value} (h:fO w g c u):fO w (g.name k k2) (zM k k2 c) u:=by
 cases c with
 | ro d=>exact Ro.name h
 | own d=>exact h
 | dead=>trivial
 | ref pl=>
  simp only [zM]
  split
  ·rename_i e
   refine ⟨?_,h.2⟩
   simp only [Gh.name,if_pos]
   rw [← e]
   exact h.1
  ·split
   ·trivial
   ·rename_i e e2
    refine ⟨?_,h.2⟩
    simp only [Gh.name,if_neg e2]
    exact h.1
theorem ef.name {t:TV} {u:Value} (h:ef w g t u):ef w (g.name k k2) (zN k k2 t) u:=by
 cases h with
 | c c u hv=>exact .c _ u hv.name
 | agg cs us hs hv=>
  refine .agg _ us (by simpa using hs) fun j c u h1 h2=> ?_
  rw [List.getElem?_map,Option.map_eq_some_iff] at h1
  obtain ⟨c',h1,rfl⟩:=h1
  exact (hv j c' u h1 h2).name
 | ptr pl=>
  simp only [zN]
  split
  rename_i e
  have:=ef.ptr (w:=w) (g:=g.name k k2) ⟨k2,pl.p,pl.q⟩
  have he:(g.name k k2).ad k2=g.ad pl.k:=by rw [e];simp [Gh.name]
  rw [he] at this
  exact this
  split
  exact .dead _
  rename_i e e2
  have:=ef.ptr (w:=w) (g:=g.name k k2) pl
  simp only [Gh.name,if_neg e2] at this
  exact this
 | bV ds b off us ho hcell=>exact .bV ds b off us (Gh.DF ho) fun j d hj=>⟨(hcell j d hj).1,(hcell j d hj).2.name⟩
 | CV oC b off hro hcell=>
  simp only [zN]
  cases hp:oC.any (fun pl=>pl.k == k || pl.k == k2) with
  | true=>exact .dead _
  | false=>
   rw [List.any_eq_false] at hp
   refine .CV oC b off (Gh.DF hro) fun j pl hj=> ?_
   have h1:=hp pl (List.mem_of_getElem? hj)
   have h2:pl.k ≠ k2:=fun e=>by simp [e] at h1
   rw [hcell j pl hj]
   simp only [Gh.name,if_neg h2]
 | o3 oC b off hro hcell=>
  simp only [zN]
  cases hp:oC.any (fun pl=>pl.k == k || pl.k == k2) with
  | true=>exact .dead _
  | false=>
   rw [List.any_eq_false] at hp
   refine .o3 oC b off (Gh.DF hro) fun j pl hj=> ?_
   have h1:=hp pl (List.mem_of_getElem? hj)
   have h2:pl.k ≠ k2:=fun e=>by simp [e] at h1
   rw [hcell j pl hj]
   simp only [Gh.name,if_neg h2]
 | cut pl sz lo hi b off n c hc h1 h2 h3=>
  simp only [zN]
  split
  rename_i e
  refine .cut _ sz lo hi b off n c ?_ h1 h2 h3
  have he:(g.name k k2).cv k2=g.cv pl.k:=by rw [e];simp [Gh.name]
  show (g.name k k2).cv k2 pl.p pl.q=_
  rw [he]
  exact hc
  split
  exact .dead _
  rename_i e e2
  refine .cut _ sz lo hi b off n c ?_ h1 h2 h3
  simp only [Gh.name,if_neg e2]
  exact hc
 | dead u=>exact .dead u
theorem dy.name {t:TS} {u:Value} (h:dy w g t u):dy w (g.name k k2) (LZ k k2 t) u:=by
 have hl:∀ (ts:List TV) (us:Array Value),(∀ (j:Nat) t u,ts[j]? = some t→us[j]? = some u→ef w g t u)→∀ (j:Nat) t u,(ts.map (zN k k2))[j]? = some t→us[j]? = some u→ef w (g.name k k2) t u:=fun ts us hh j t u h1 h2=>by
  rw [List.getElem?_map,Option.map_eq_some_iff] at h1
  obtain ⟨c',h1,rfl⟩:=h1
  exact (hh j c' u h1 h2).name
 cases h with
 | one t u h=>exact .one _ u h.name
 | lp ts us hs h=>exact .lp _ us (by simpa using hs) (hl ts us h)
 | fn f ts us hs h=>exact .fn f _ us (by simpa using hs) (hl ts us h)
theorem Rel.name (hR:Rel w0 g0 st a w g) (k k2:Nat) (hkp:k2 < 1000000):Rel w0 g0 (st.name k k2) a w (g.name k k2):=by
 have gk:∀ j r,(st.name k k2).root j=some r→∃ j0 r0,st.root j0=some r0∧(j0=k ∨ j0 ≠ k2)∧j=(if j0=k then k2 else j0)∧r=⟨r0.mem,r0.row.map (zM k k2)⟩:=fun j r h=>by
  rw [Rp] at h
  split at h
  ·rename_i e
   rw [Option.map_eq_some_iff] at h
   obtain ⟨r0,h0,rfl⟩:=h
   exact ⟨k,r0,h0, .inl rfl,by simp [e],rfl⟩
  ·rename_i e
   split at h
   ·cases h
   ·rename_i e2
    rw [Option.map_eq_some_iff] at h
    obtain ⟨r0,h0,rfl⟩:=h
    exact ⟨j,r0,h0, .inr e,by simp [e2],rfl⟩
 have fL:∀ j0,(j0=k ∨ j0 ≠ k2)→(g.name k k2).cv (if j0=k then k2 else j0)=g.cv j0∧(g.name k k2).ad (if j0=k then k2 else j0)=g.ad j0:=fun j0 h=>by
  by_cases e:j0=k
  ·subst e;simp [Gh.name]
  ·simp [Gh.name,e,h.resolve_left e]
 refine ⟨fun i tv hi=> ?_,by simpa [St.name] using hR.sz,hR.df,⟨fun j r hj q c hq=> ?_,fun j r hj hm=> ?_⟩, ?_⟩
 ·simp only [St.name,List.getElem?_map,Option.map_eq_some_iff] at hi
  obtain ⟨t,hi,rfl⟩:=hi
  exact (hR.tm i t hi).name
 ·obtain ⟨j0,r0,h0,Em,rfl,rfl⟩:=gk j r hj
  simp only [List.getElem?_map,Option.map_eq_some_iff] at hq
  obtain ⟨c0,hq,rfl⟩:=hq
  have h1:=hR.rt.cell j0 r0 h0 q c0 hq
  have hv:=(fL j0 Em).1
  cases c0 with
  | ro d=>
   have h2:Ro w g.o d (g.cv j0 [] q):=h1
   show Ro w (g.name k k2).o d _
   rw [hv]
   exact h2.name
  | own d=>exact Ow.name h1 Em
  | dead=>trivial
  | ref pl=>
   have h2:fO w g (.ref pl) (g.cv j0 [] q):=h1
   have h3:=h2.name (k:=k) (k2:=k2)
   rw [← hv] at h3
   have hex:∀ c,fO w (g.name k k2) c ((g.name k k2).cv (if j0=k then k2 else j0) [] q)→(∃ pl,c= .ref pl) ∨ c= .dead→lE w (g.name k k2) (if j0=k then k2 else j0) q c:=fun c h4 h5=>by
    rcases h5 with ⟨pl,rfl⟩|rfl
    ·exact h4
    ·trivial
   refine hex _ h3 ?_
   simp only [zM]
   split
   ·exact .inl ⟨_,rfl⟩
   ·split
    ·exact .inr rfl
    ·exact .inl ⟨_,rfl⟩
 ·obtain ⟨j0,r0,h0,Em,rfl,rfl⟩:=gk j r hj
  obtain ⟨h1,h2,h3⟩:=hR.rt.mem j0 r0 h0 hm
  rw [(fL j0 Em).1,(fL j0 Em).2]
  refine ⟨?_,h2,fun q hq=>h3 q (by simpa using hq)⟩
  simp only [Gh.name,h1]
  by_cases e:j0=k
  ·simp [e]
  ·simp [e,Em.resolve_left e]
 ·have hK:=hR.ks
  have hout:∀ b,(g.name k k2).o b= .outer ↔ g.o b= .outer:=fun b=>by
   simp only [Gh.name]
   cases hb:g.o b with
   | box j=>simp only;by_cases e:j=k <;> by_cases e2:j=k2 <;> simp only [if_pos,if_neg,e,e2,not_false_eq_true] <;> by_cases e3:k2=k <;> simp [e3]
   | cQ j p q=>simp only;by_cases e:j=k <;> by_cases e2:j=k2 <;> simp only [if_pos,if_neg,e,e2,not_false_eq_true] <;> by_cases e3:k2=k <;> simp [e3]
   | _=>simp
  refine ⟨hK.os,hK.tape,hK.output,hK.size,fun b hb hx=> ?_,fun b hb=>(hout b).2 (hK.fresh b hb),fun b hb hx=>hK.old b hb ((hout b).1 hx),⟨fun q=> ?_, ?_⟩,fun b hb=> ?_⟩
  obtain ⟨h1,h2⟩:=hK.block b hb hx
  refine ⟨h1, ?_⟩
  rcases hx with hx|hx <;> simp only [Gh.name,h2,hx]
  ·have yy:cm ≠ k2:=by simp only [cm];omega
   simp only [Gh.name,if_neg yy]
   exact hK.uB.1 q
  ·have N6:dN ≠ k2:=by simp only [dN];omega
   simp only [Gh.name,if_neg N6]
   exact hK.uB.2
  ·have yy:cm ≠ k2:=by simp only [cm];omega
   simp only [Gh.name] at hb
   split at hb
   ·rename_i j hj
    split at hb
    ·simp only [Tag.box.injEq] at hb
     exact yy hb.symm
    ·split at hb
     ·cases hb
     ·simp only [Tag.box.injEq] at hb
      subst hb
      exact hK.ie b hj
   ·split at hb
    ·cases hb
    ·split at hb <;> cases hb
   ·exact hK.ie b hb
def Can (st bD:St):Prop:=∀ {w0:World} {g0:Gh} {a:Act} {w:World} {g:Gh},Rel w0 g0 st a w g→∃ g',Rel w0 g0 bD a w g'
theorem Can.refl (st:St):Can st st:=fun hR=>⟨_,hR⟩
theorem Can.name {bD wB:St} (k k2:Nat) (h:st.name k k2=bD) (hc:Can bD wB) (hkp:k2 < 1000000:=by decide):Can st wB:=fun hR=>hc (h ▸ hR.name k k2 hkp)
theorem Can.less {bD wB:St} (h:Less st bD) (hc:Can bD wB):Can st wB:=fun hR=>hc (hR.less h)
theorem TC.can {c:Code} {bD:St} {Q:Exit→St→Prop} (h:Can st bD) (hc:TC P w0 g0 c bD Q):TC P w0 g0 c st Q:=fun a w g hR=>by
 obtain ⟨g',hU⟩:=h hR
 exact hc a w g' hU
theorem ay {x y:Value} (h:x=y):(⟨[],fun _=>V x⟩:mR)=⟨[],fun _=>V y⟩:=by rw [h]
theorem TQ.S7 {ops:Array Oper} {o:Oper} {rest:List Oper} {bD:St} {Q:St→Prop} {t:TS} (hg:o.guard=none) (h:dQ P w0 g0 o st t) (hp:st.put o.dst t=bD) (hq:TQ P w0 g0 ops rest bD Q):
  TQ P w0 g0 ops (o :: rest) st Q:=TQ.val hg h (hp ▸ hq)
end
abbrev RV (x:Value):mR→Prop:=fun r=>r=⟨[],fun _=>V x⟩
abbrev RL (sz:Nat) (ds:List D):mR→Prop:=fun r=>r=⟨[.sl sz ds],fun k=> .one (.c (.ref ⟨k,[],0⟩))⟩
abbrev L (sz:Nat) (ds:List D):TS:= .one (.c (.ro (.sl sz ds)))
abbrev A (ds:List D):TS:= .one (.agg (ds.map C.ro))
def fill {α:Type} (f: α→D) (z:D) (xs:List α) (k:Nat):List D:=(xs.take k).map f ++ List.replicate (xs.length - k) z
section
variable {α:Type} {f: α→D} {z:D} {xs:List α} {k:Nat}
theorem lG:(fill f z xs k).length=xs.length:=by simp [fill];omega
theorem lH (h:k < xs.length):(fill f z xs k)[k]? = some z:=by
 unfold fill
 rw [List.getElem?_append_right (by simp;omega)]
 simp [List.getElem?_replicate]
 omega
theorem lI {x: α} (hx:xs[k]? = some x):(fill f z xs k).set k (f x)=fill f z xs (k + 1):=by
 have h:=(List.getElem?_eq_some_iff.1 hx).1
 unfold fill
 rw [List.set_append_right _ _ (by simp;omega)]
 have h1:xs.length - k=(xs.length - (k + 1)) + 1:=by omega
 have h2:k - ((xs.take k).map f).length=0:=by simp;omega
 rw [h2,h1,List.replicate_succ,List.set_cons_zero,List.take_add_one,hx]
 simp
theorem lJ (h:xs.length ≤ k):fill f z xs k=xs.map f:=by
 unfold fill
 rw [List.take_of_length_le h,Nat.sub_eq_zero_of_le h]
 simp
end
section
variable {P:Program} {w0:World} {g0:Gh} {st:St}
theorem xH.Y9 {pl:Pl} {d:D} (h:st.cellAt pl=some (.own d)) (hw:Whole d):xH st (.one (.c (.ref pl))) (.one (.c (.ro d))):= .ref pl d h hw
def L0:C→Option Value
 | .ro (.v x)=>if plain x then some x else none
 | _=>none
def Cm:List C→Option (List Value)
 | []=>some []
 | c :: l=>match L0 c,Cm l with|some x,some xs=>some (x :: xs)|_,_=>none
def P3:TV→Option Value
 | .c x=>L0 x
 | .agg cs=>(Cm cs).map fun l=> .agg l.toArray
 | _=>none
def L1:List TV→Option (List Value)
 | []=>some []
 | c :: l=>match P3 c,L1 l with|some x,some xs=>some (x :: xs)|_,_=>none
def oG:TS→Option Value
 | .one t=>P3 t
 | .lp ts=>(L1 ts).map fun l=> .tuple l.toArray
 | _=>none
theorem wD {w:World} {g:Gh} {c:C} {x u:Value} (h:L0 c=some x):fO w g c u ↔ u=x:=by
 cases c with
 | ro d=>
  cases d with
  | v y=>
   simp only [L0] at h
   split at h
   rename_i hp
   simp only [Option.some.injEq] at h
   subst h
   constructor
   intro hr
   have hr':Ro w g.o (.v y) u:=hr
   cases hr'
   rfl
   rintro rfl
   exact Ro.v _ hp
   cases h
  | _=>cases h
 | _=>cases h
theorem Bn {w:World} {g:Gh}:∀ {cs:List C} {xs:List Value},Cm cs=some xs→xs.length=cs.length∧∀ us:List Value,us.length=cs.length→((∀ (j:Nat) c u,cs[j]? = some c→us[j]? = some u→fO w g c u) ↔ us=xs)
 | [],xs,h=>by
  simp only [Cm,Option.some.injEq] at h
  subst h
  exact ⟨rfl,fun us hl=>⟨fun _=>List.eq_nil_of_length_eq_zero hl,fun _ j c u h=>by simp at h⟩⟩
 | c :: cs,xs,h=>by
  simp only [Cm] at h
  split at h
  rename_i x xs' h1 h2
  simp only [Option.some.injEq] at h
  subst h
  have ih:=Bn (w:=w) (g:=g) h2
  refine ⟨by simp [ih.1],fun us hl=> ?_⟩
  cases us with
  | nil=>simp at hl
  | cons u us=>
   have ih2:=ih.2 us (by simpa using hl)
   constructor
   intro hh
   have e1:=(wD h1).1 (hh 0 c u rfl rfl)
   have e2:=ih2.1 fun j c' u' hj hu=>hh (j + 1) c' u' (by simpa using hj) (by simpa using hu)
   rw [e1,e2]
   intro e j c' u' hj hu
   simp only [List.cons.injEq] at e
   cases j with
   | zero=>
    simp only [List.getElem?_cons_zero,Option.some.injEq] at hj hu
    subst hj;subst hu
    exact (wD h1).2 e.1
   | succ j=>exact ih2.2 e.2 j c' u' (by simpa using hj) (by simpa using hu)
  cases h
theorem wE {w:World} {g:Gh} {t:TV} {x u:Value} (h:P3 t=some x):ef w g t u ↔ u=x:=by
 cases t with
 | c y=>exact ⟨fun hr=>by cases hr with|c _ _ hv=>exact (wD h).1 hv,fun e=> .c _ _ ((wD h).2 e)⟩
 | agg cs=>
  simp only [P3,Option.map_eq_some_iff] at h
  obtain ⟨l,h,rfl⟩:=h
  have hl:=Bn (w:=w) (g:=g) h
  constructor
  intro hr
  cases hr with
  | agg _ us hs hv=>
   have:=(hl.2 us.toList (by simpa using hs)).1 fun j c u hj hu=>hv j c u hj (by simpa using hu)
   rw [← this]
  rintro rfl
  exact .agg _ _ (by simp [hl.1]) fun j c u hj hu=>(hl.2 l hl.1).2 rfl j c u hj (by simpa using hu)
 | _=>cases h
theorem Ik {w:World} {g:Gh}:∀ {cs:List TV} {xs:List Value},L1 cs=some xs→xs.length=cs.length∧∀ us:List Value,us.length=cs.length→((∀ (j:Nat) c u,cs[j]? = some c→us[j]? = some u→ef w g c u) ↔ us=xs)
 | [],xs,h=>by
  simp only [L1,Option.some.injEq] at h
  subst h
  exact ⟨rfl,fun us hl=>⟨fun _=>List.eq_nil_of_length_eq_zero hl,fun _ j c u h=>by simp at h⟩⟩
 | c :: cs,xs,h=>by
  simp only [L1] at h
  split at h
  rename_i x xs' h1 h2
  simp only [Option.some.injEq] at h
  subst h
  have ih:=Ik (w:=w) (g:=g) h2
  refine ⟨by simp [ih.1],fun us hl=> ?_⟩
  cases us with
  | nil=>simp at hl
  | cons u us=>
   have ih2:=ih.2 us (by simpa using hl)
   constructor
   intro hh
   have e1:=(wE h1).1 (hh 0 c u rfl rfl)
   have e2:=ih2.1 fun j c' u' hj hu=>hh (j + 1) c' u' (by simpa using hj) (by simpa using hu)
   rw [e1,e2]
   intro e j c' u' hj hu
   simp only [List.cons.injEq] at e
   cases j with
   | zero=>
    simp only [List.getElem?_cons_zero,Option.some.injEq] at hj hu
    subst hj;subst hu
    exact (wE h1).2 e.1
   | succ j=>exact ih2.2 e.2 j c' u' (by simpa using hj) (by simpa using hu)
  cases h
theorem gH {w:World} {g:Gh} {t:TS} {x u:Value} (h:oG t=some x):dy w g t u ↔ u=x:=by
 cases t with
 | one t=>exact ⟨fun hr=>by cases hr with|one _ _ hv=>exact (wE h).1 hv,fun e=> .one _ _ ((wE h).2 e)⟩
 | lp cs=>
  simp only [oG,Option.map_eq_some_iff] at h
  obtain ⟨l,h,rfl⟩:=h
  have hl:=Ik (w:=w) (g:=g) h
  constructor
  intro hr
  cases hr with
  | lp _ us hs hv=>
   have:=(hl.2 us.toList (by simpa using hs)).1 fun j c u hj hu=>hv j c u hj (by simpa using hu)
   rw [← this]
  rintro rfl
  exact .lp _ _ (by simp [hl.1]) fun j c u hj hu=>(hl.2 l hl.1).2 rfl j c u hj (by simpa using hu)
 | _=>cases h
abbrev RP (t:TS):mR→Prop:=fun r=>r=⟨[],fun _=>t⟩
theorem fX.makeE {o:Oper} {Q:St→Prop} {x y:Operand} {t e:TypeId} (ho:o.op= .makeSlice t x y) {k:Nat} (hd:o.dst=some k) {n:Int} (hx:T.cy 0 st x=some (I n)) (hy:T.cy 0 st y=some (I n)) (hu:P.underlying t=some (.slice e))
  {i:TypeInfo} {z:Value} {sz:Nat} (hi:P.info? e=some i) (hz:i.zero=some z) (hsz:i.size=sz) (hby:Nat.ble i.bytes 1048576=true) {row:List D} (hrow:xR P 6 e=some row)
  (hv:z.cells.toList=row.map zeroV) (hok:row.all r9=true) (hrl:row.length=sz) {d:D} (SB:d.row=row) (h0:0 ≤ n) (h1:n ≤ 134217728)
  (hq:Q ((st.renew [k] k ⟨false,[.own (.sl sz (List.replicate n.toNat d))]⟩).put (some k) (.one (.c (.ref ⟨k,[],0⟩))))) (hkp:k < 1000000:=by decide):fX P w0 g0 o st Q:=by
 have hb:=Nat.le_of_ble_eq_true hby
 refine fX.make ho hd hx hy hu hi hz hsz rfl hrow hv hok hrl SB h0 ?_ (by omega) hq hkp
 calc n * (i.bytes:Int) ≤ 134217728 * (i.bytes:Int):=Int.mul_le_mul_of_nonneg_right h1 (by omega)
  _ ≤ 140737488355328:=by omega
theorem fX.Wq {o:Oper} {Q:St→Prop} {x y:Operand} {t t2 e e2:TypeId} (ho:o.op= .call { callee:= .builtin .append,args:= #[x,y],argTypes:= #[t,t2] }) {k:Nat} (hd:o.dst=some k) {k1:Nat} {tv:TS} (hx:T.cy 0 st x=some (.one (.c (.ref ⟨k1,[],0⟩))))
  {sz:Nat} (hy:T.cy sz st y=some tv) {ds ns:List D} (h1:st.root k1=some ⟨false,[.own (.sl sz ds)]⟩) (h2:lu st tv=some (sz,ns)) (oF:∀ d ∈ ns,gZ d)
  (ht:P.underlying t=some (.slice e)) (Ih:P.underlying t2=some (.slice e2)) {i:TypeInfo} {z:Value} (hi:P.info? e=some i) (hz:i.zero=some z)
  (hsz:i.size=sz) (hby:Nat.ble i.bytes 1048576=true) (hzs:z.cells.size=sz) (hlen:ds.length + ns.length ≤ 134217728)
  (hq:Q ((st.renew [k,k1] k ⟨false,[.own (.sl sz (ds ++ ns))]⟩).put (some k) (.one (.c (.ref ⟨k,[],0⟩))))) (hkp:k < 1000000:=by decide):fX P w0 g0 o st Q:=by
 have hb:=Nat.le_of_ble_eq_true hby
 refine fX.Wn ho hd hx hy h1 h2 oF ht Ih hi hz hsz rfl hzs (by simp only [most];omega) ?_ hq hkp
 calc (ds.length + ns.length) * i.bytes ≤ 134217728 * i.bytes:=Nat.mul_le_mul_right _ hlen
  _ ≤ 140737488355328:=by omega
end
inductive Ty where
 | bool
 | int (k:IntKind)
 | str
 | list (e:Ty)
 | st (fs:List Ty)
mutual
def Ty.sz:Ty→Nat
 | .st fs=>szL fs
 | _=>1
def szL:List Ty→Nat
 | []=>0
 | t :: l=>t.sz + szL l
end
mutual
def Ty.is:Ty→List D→Prop
 | .bool,r=>∃ b,r=[.v (.bool b)]
 | .int k,r=>∃ n,r=[.v (.int k n)]∧(Lit.int k n).wf=true
 | .str,r=>∃ s:ByteArray,r=[.v (.string s)]∧s.size ≤ maxLen
 | .list e,r=>∃ ds,r=[.sl e.sz ds]∧∀ d ∈ ds,e.elem d
 | .st fs,r=>G5 fs r
def Ty.elem:Ty→D→Prop
 | .st fs,d=>∃ r,d= .st r∧G5 fs r
 | .bool,d=>∃ b,d= .v (.bool b)
 | .int k,d=>∃ n,d= .v (.int k n)∧(Lit.int k n).wf=true
 | .str,d=>∃ s:ByteArray,d= .v (.string s)∧s.size ≤ maxLen
 | .list e,d=>∃ ds,d= .sl e.sz ds∧∀ d ∈ ds,e.elem d
def G5:List Ty→List D→Prop
 | [],r=>r=[]
 | t :: l,r=>∃ a b,r=a ++ b∧t.is a∧G5 l b
end
mutual
def Ty.fits (P:Program):Ty→TypeId→Bool
 | .bool,t=>match P.underlying t with|some .bool=>true|_=>false
 | .int k,t=>match P.underlying t with|some (.int k')=>decide (k'=k)|_=>false
 | .str,t=>match P.underlying t with|some .string=>true|_=>false
 | .list e,t=>match P.underlying t with|some (.slice u)=>e.fits P u && (P.cellsOf u == e.sz) && decide (0 < e.sz)|_=>false
 | .st l,t=>match P.underlying t with|some (.struct fs)=>Il P l fs.toList 0 && (P.cellsOf t == szL l)|_=>false
def Il (P:Program):List Ty→List Field→Nat→Bool
 | [],[],_=>true
 | t :: l,f :: fs,off=>(f.offset == off) && (P.cellsOf f.type == t.sz) && t.fits P f.type && Il P l fs (off + t.sz)
 | _,_,_=>false
end
theorem Ty.P4:∀ (e:Ty) {r:List D},e.is r→∃ d,e.elem d∧d.row=r
 | .bool,r,h=>by simp only [Ty.is] at h;obtain ⟨b,rfl⟩:=h;exact ⟨_,by simp only [Ty.elem];exact ⟨b,rfl⟩,rfl⟩
 | .int k,r,h=>by simp only [Ty.is] at h;obtain ⟨b,rfl,hw⟩:=h;exact ⟨_,by simp only [Ty.elem];exact ⟨b,rfl,hw⟩,rfl⟩
 | .str,r,h=>by simp only [Ty.is] at h;obtain ⟨b,rfl,hw⟩:=h;exact ⟨_,by simp only [Ty.elem];exact ⟨b,rfl,hw⟩,rfl⟩
 | .list e,r,h=>by simp only [Ty.is] at h;obtain ⟨b,rfl,hw⟩:=h;exact ⟨_,by simp only [Ty.elem];exact ⟨b,rfl,hw⟩,rfl⟩
 | .st fs,r,h=>by simp only [Ty.is] at h;exact ⟨.st r,by simp only [Ty.elem];exact ⟨r,rfl,h⟩,rfl⟩
theorem L2 {α:Type} {n:Nat} {R:Nat→ α→Prop} (h:∀ i,i < n→∃ a,R i a):∃ l:List α,l.length=n∧∀ (i:Nat) a,l[i]? = some a→R i a:=by
 induction n with
 | zero=>exact ⟨[],rfl,fun i a hi=>by simp at hi⟩
 | succ n ih=>
  obtain ⟨l,hl,hh⟩:=ih fun i hi=>h i (by omega)
  obtain ⟨a,ha⟩:=h n (by omega)
  refine ⟨l ++ [a],by simp [hl],fun i b hi=> ?_⟩
  rcases Nat.lt_or_ge i n with hin|hin
  rw [List.getElem?_append_left (by omega)] at hi
  exact hh i b hi
  have hlt:=(List.getElem?_eq_some_iff.1 hi).1
  simp only [List.length_append,List.length_cons,List.length_nil] at hlt
  have:i=n:=by omega
  subst this
  rw [List.getElem?_append_right (by omega)] at hi
  simp only [hl,Nat.sub_self,List.getElem?_cons_zero,Option.some.injEq] at hi
  subst hi
  exact ha
section
variable {H:Type} {enc:TypeId×Value→H} {P:Program} {w:World}
theorem Im {a:Addr} {n:Nat} {cs:List Value} (h:w.cells? 0 a n=some cs):cs.length=n∧∀ (j:Nat) u,cs[j]? = some u→w.cell? (a.add j)=some u:=by
 unfold World.cells? at h
 rw [if_pos (Nat.zero_le _)] at h
 have hl:cs.length=n:=by simpa using mapM_some_length h
 refine ⟨hl,fun j u hj=> ?_⟩
 have hlt:j < n:=by rw [← hl];exact (List.getElem?_eq_some_iff.1 hj).1
 have:=mapM_some_get h j j (by simp [hlt])
 rw [this]
 exact hj
mutual
theorem Ty.open:∀ (ty:Ty) {n:Nat} {t:TypeId} {cs:List Value} {x:DataW H×List MemPlace},ty.fits P t=true→DataW.trod enc P w 0 (fun _=>true) true n t cs=some x→
  ∃ row,ty.is row∧row.length=ty.sz∧cs.length=ty.sz∧∀ (j:Nat) d u,row[j]? = some d→cs[j]? = some u→Ro w (ij w) d u
 | .bool,n,t,cs,x,hf,h=>by
  simp only [Ty.fits] at hf
  split at hf
  rename_i ht
  obtain ⟨b,rfl,_⟩:=DataW.trod_bool ht h
  refine ⟨[.v (.bool b)],by simp only [Ty.is];exact ⟨b,rfl⟩,by simp [Ty.sz],by simp [Ty.sz],fun j d u hd hu=> ?_⟩
  cases j with
  | zero=>simp only [List.getElem?_cons_zero,Option.some.injEq] at hd hu;subst hd;subst hu;exact .v _ rfl
  | succ j=>simp at hd
  cases hf
 | .int k,n,t,cs,x,hf,h=>by
  simp only [Ty.fits] at hf
  split at hf
  rename_i ht
  have hk:=of_decide_eq_true hf
  subst hk
  obtain ⟨b,rfl,_,hw⟩:=DataW.trod_int ht h
  refine ⟨[.v (.int _ b)],by simp only [Ty.is];exact ⟨b,rfl,hw⟩,by simp [Ty.sz],by simp [Ty.sz],fun j d u hd hu=> ?_⟩
  cases j with
  | zero=>simp only [List.getElem?_cons_zero,Option.some.injEq] at hd hu;subst hd;subst hu;exact .v _ rfl
  | succ j=>simp at hd
  cases hf
 | .str,n,t,cs,x,hf,h=>by
  simp only [Ty.fits] at hf
  split at hf
  rename_i ht
  obtain ⟨b,rfl,_,hw⟩:=DataW.trod_string ht h
  refine ⟨[.v (.string b)],by simp only [Ty.is];exact ⟨b,rfl,hw⟩,by simp [Ty.sz],by simp [Ty.sz],fun j d u hd hu=> ?_⟩
  cases j with
  | zero=>simp only [List.getElem?_cons_zero,Option.some.injEq] at hd hu;subst hd;subst hu;exact .v _ rfl
  | succ j=>simp at hd
  cases hf
 | .list e,n,t,cs,x,hf,h=>by
  simp only [Ty.fits] at hf
  split at hf
  rename_i ue ht
  simp only [Bool.and_eq_true,beq_iff_eq,decide_eq_true_eq] at hf
  obtain ⟨⟨G6,hcs⟩,hpos⟩:=hf
  rcases DataW.trod_slice ht h with ⟨rfl,_⟩|⟨a,len,cap,elems,rest,m,rfl,rfl,_,_,hlc,hcap,hlen,hel,_,_⟩
  refine ⟨[.sl e.sz []],by simp only [Ty.is];exact ⟨[],rfl,fun d hd=>by cases hd⟩,by simp [Ty.sz],by simp [Ty.sz],fun j d u hd hu=> ?_⟩
  cases j with
  | zero=>simp only [List.getElem?_cons_zero,Option.some.injEq] at hd hu;subst hd;subst hu;exact .nil _ _ _
  | succ j=>simp at hd
  rcases Nat.eq_zero_or_pos len with h0|h0
  subst h0
  refine ⟨[.sl e.sz []],by simp only [Ty.is];exact ⟨[],rfl,fun d hd=>by cases hd⟩,by simp [Ty.sz],by simp [Ty.sz],fun j d u hd hu=> ?_⟩
  cases j with
  | zero=>simp only [List.getElem?_cons_zero,Option.some.injEq] at hd hu;subst hd;subst hu;exact .nil _ _ _
  | succ j=>simp at hd
  have vh:∀ i,i < len→∃ cs',w.cells? 0 (a.add (i * e.sz)) e.sz=some cs'∧∃ y,DataW.trod enc P w 0 (fun _=>true) true m ue cs'=some y:=fun i hi=>by
   have h1:=hel i hi
   rw [hcs,List.getElem?_eq_getElem (by omega),Option.bind_eq_some_iff] at h1
   obtain ⟨cs',h3,h4⟩:=h1
   exact ⟨cs',h3,_,h4⟩
  have hspot:a.spot=none∧a.block < w.heap.size:=by
   obtain ⟨cs',h3,_⟩:=vh 0 h0
   have kU:=Im h3
   have hlt:0 < cs'.length:=by rw [kU.1];exact hpos
   have oW:=kU.2 0 _ (List.getElem?_eq_getElem hlt)
   have h12:=World.block_lt_of_cell? w _ oW
   rw [Nat.zero_mul] at oW h12
   simp only [Addr.add] at oW h12
   refine ⟨?_,by simpa using h12⟩
   cases hs:a.spot with
   | none=>rfl
   | some k=>
    exfalso
    revert oW
    simp only [World.cell?,Nat.add_zero,hs,Option.isSome_some,if_true]
    split <;> simp
  obtain ⟨blk,off,spot⟩:=a
  obtain ⟨hsp,Bl⟩:=hspot
  simp only at hsp Bl
  subst hsp
  obtain ⟨ds,NU,hds⟩:=L2 (n:=len) (R:=fun i d=>e.elem d∧d.row.length=e.sz∧∀ (j:Nat) c,d.row[j]? = some c→∃ u,w.cell? ⟨blk,off + (i * e.sz + j),none⟩=some u∧Ro w (ij w) c u) fun i hi=>by
   obtain ⟨cs',h3,y,h4⟩:=vh i hi
   obtain ⟨row,h5,h6,h7,h8⟩:=Ty.open e G6 h4
   obtain ⟨d,h9,rfl⟩:=e.P4 h5
   have kU:=Im h3
   refine ⟨d,h9,h6,fun j c hj=> ?_⟩
   have hjl:j < cs'.length:=by rw [h7, ← h6];exact (List.getElem?_eq_some_iff.1 hj).1
   have hj':=List.getElem?_eq_getElem hjl
   refine ⟨_, ?_,h8 j c _ hj hj'⟩
   have:=kU.2 j _ hj'
   rw [Addr.add_lit,Addr.add_lit,Nat.add_assoc] at this
   exact this
  refine ⟨[.sl e.sz ds],by simp only [Ty.is];exact ⟨ds,rfl,fun d hd=>by obtain ⟨i,hi⟩:=List.getElem?_of_mem hd;exact (hds i d hi).1⟩,by simp [Ty.sz],by simp [Ty.sz],fun j d u hd hu=> ?_⟩
  cases j with
  | succ j=>simp at hd
  | zero=>
   simp only [List.getElem?_cons_zero,Option.some.injEq] at hd hu
   subst hd;subst hu
   have hcell:∀ t,t < len * e.sz→∃ u,w.cell? ⟨blk,off + t,none⟩=some u:=fun t ht=>by
    have h1:t / e.sz < len:=Nat.div_lt_of_lt_mul (by rw [Nat.mul_comm];exact ht)
    have h2:t % e.sz < e.sz:=Nat.mod_lt _ hpos
    obtain ⟨_,h3,h4⟩:=hds (t / e.sz) ds[t / e.sz] (List.getElem?_eq_getElem (by omega))
    obtain ⟨u,h5,_⟩:=h4 (t % e.sz) _ (List.getElem?_eq_getElem (by omega))
    have h6:t / e.sz * e.sz + t % e.sz=t:=by rw [Nat.mul_comm];exact Nat.div_add_mod t e.sz
    rw [h6] at h5
    exact ⟨u,h5⟩
   refine .sl e.sz ds blk off len cap (fun t=>(w.cell? ⟨blk,off + t,none⟩).getD undef) NU ?_ (by first|omega|exact hcap.1|simp_all) (by simp [ij,Bl]) (fun d hd=>by obtain ⟨i,hi⟩:=List.getElem?_of_mem hd;exact (hds i d hi).2.1) (fun t ht=> ?_) (fun i d hi j c' hj=> ?_)
   simp only [maxLen] at hcap
   simp only [most]
   omega
   obtain ⟨u,hu⟩:=hcell t ht
   rw [hu]
   rfl
   obtain ⟨u,h5,h6⟩:=(hds i d hi).2.2 j c' hj
   rw [h5]
   exact h6
  cases hf
 | .st l,n,t,cs,x,hf,h=>by
  simp only [Ty.fits] at hf
  split at hf
  rename_i fs ht
  simp only [Bool.and_eq_true,beq_iff_eq] at hf
  obtain ⟨xs,m,rfl,rfl,hl,hxs,hh⟩:=DataW.trod_struct ht h
  obtain ⟨row,h1,h2,h3⟩:=Yh l (n:=m) (cs:=cs) hf.1 fun i f hi=>by
   have hi':fs[i]? = some f:=by simpa using hi
   have h4:=hh i f hi'
   have h5:i < xs.length:=by rw [hxs];exact (Array.getElem?_eq_some_iff.1 hi').1
   rw [List.getElem?_eq_getElem h5] at h4
   exact ⟨_,h4⟩
  refine ⟨row,by simp only [Ty.is];exact h1,by simpa [Ty.sz] using h2,by simp only [Ty.sz];rw [hl,hf.2],fun j d u hd hu=>h3 j d u hd (by simpa using hu)⟩
  cases hf
theorem Yh:∀ (l:List Ty) {n:Nat} {fs:List Field} {off:Nat} {cs:List Value},Il P l fs off=true→
  (∀ (i:Nat) f,fs[i]? = some f→∃ y,DataW.trod enc P w 0 (fun _=>true) true n f.type ((cs.drop f.offset).take (P.cellsOf f.type))=some y)→ 
  ∃ row,G5 l row∧row.length=szL l∧∀ (j:Nat) d u,row[j]? = some d→cs[off + j]? = some u→Ro w (ij w) d u
 | [],n,[],off,cs,hf,h=>⟨[],by simp [G5],by simp [szL],fun j d u hd=>by simp at hd⟩
 | [],n,_ :: _,off,cs,hf,h=>by simp [Il] at hf
 | _ :: _,n,[],off,cs,hf,h=>by simp [Il] at hf
 | t :: l,n,f :: fs,off,cs,hf,h=>by
  simp only [Il,Bool.and_eq_true,beq_iff_eq] at hf
  obtain ⟨⟨⟨h1,h2⟩,h3⟩,h4⟩:=hf
  obtain ⟨y,hy⟩:=h 0 f rfl
  obtain ⟨r1,k1,k2,k3,k4⟩:=Ty.open t h3 hy
  obtain ⟨r2,m1,m2,m3⟩:=Yh l (n:=n) (cs:=cs) h4 fun i f hi=>h (i + 1) f (by simpa using hi)
  refine ⟨r1 ++ r2,by simp only [G5];exact ⟨r1,r2,rfl,k1,m1⟩,by simp [szL,k2,m2],fun j d u hd hu=> ?_⟩
  rcases Nat.lt_or_ge j r1.length with hj|hj
  rw [List.getElem?_append_left hj] at hd
  refine k4 j d u hd ?_
  rw [List.getElem?_take,if_pos (by rw [h2, ← k2];exact hj),List.getElem?_drop,h1]
  exact hu
  rw [List.getElem?_append_right hj] at hd
  refine m3 (j - r1.length) d u hd ?_
  rw [k2]
  rw [k2] at hj
  rw [show off + t.sz + (j - t.sz)=off + j by omega]
  exact hu
end
end
theorem El.done {P:Program} {f:FuncId} {pts:List TS} {W:World} (h:El P f pts (RV (.bool true)) W) {args:Array Value} (hsz:args.size=pts.length)
  (hargs:∀ g:Gh,g.o=ij W→∀ (i:Nat) t u,pts[i]? = some t→args[i]? = some u→dy W g t u):Calls P f args W fun e W'=>e= .returned (.bool true)∧RowKit.Below W.heap.size W W':=by
 refine (h ⟨ij W,fun _ _=>(0,0),fun _ _ _=>undef⟩ args 0 rfl hsz (hargs _ rfl)).mono fun e W' ⟨v,r,g',he,hr,hG⟩=> ?_
 have h5:=hG.val
 rw [hr] at h5
 have h6:=SH h5
 subst h6
 exact ⟨he,hG.os,hG.tape,hG.output,hG.size,hG.block⟩
theorem aF.done {P:Program} {f:FuncId} {pts:List TS} (h:aF P f pts (RV (.bool true))) {W:World} {args:Array Value} (hsz:args.size=pts.length)
  (hargs:∀ g:Gh,g.o=ij W→∀ (i:Nat) t u,pts[i]? = some t→args[i]? = some u→dy W g t u):Calls P f args W fun e W'=>e= .returned (.bool true)∧RowKit.Below W.heap.size W W':=El.done (h W) hsz hargs
theorem L3 {H:Type} {enc:TypeId×Value→H} {P:Program} {w:World} {e:Ty} {t:TypeId} {v:Value} {d:DataW H} {ps:List MemPlace} (hf:e.fits P t=true)
  (h:DataW.Trod enc P w 0 (fun _=>true) true t v d ps) (hv:v.cells= #[v]) (h1:(match e with| .st _=>false|_=>true)=true):∃ d,e.elem d∧∀ g:Gh,g.o=ij w→dy w g (.one (.c (.ro d))) v:=by
 obtain ⟨n,hn⟩:=h
 rw [hv] at hn
 obtain ⟨row,h2,h3,h4,h5⟩:=Ty.open _ hf hn
 obtain ⟨d,h6,h7⟩:=e.P4 h2
 have hd:d.row=[d]:=by
  cases e with
  | st fs=>cases h1
  | _=>simp only [Ty.elem] at h6;first|(obtain ⟨_,rfl,_⟩:=h6;rfl)|(obtain ⟨_,rfl⟩:=h6;rfl)
 refine ⟨d,h6,fun g hg=> .one _ _ (.c _ _ ?_)⟩
 show Ro w g.o _ _
 rw [hg]
 exact h5 0 d v (by rw [← h7,hd];rfl) rfl
theorem Ob {H:Type} {enc:TypeId×Value→H} {P:Program} {w:World} {fs:List Ty} {t:TypeId} {v:Value} {us:Array Value} {d:DataW H} {ps:List MemPlace} (hf:(Ty.st fs).fits P t=true)
  (h:DataW.Trod enc P w 0 (fun _=>true) true t v d ps) (hv:v= .agg us):∃ row,G5 fs row∧∀ g:Gh,g.o=ij w→dy w g (A row) v:=by
 subst hv
 obtain ⟨n,hn⟩:=h
 obtain ⟨row,h2,h3,h4,h5⟩:=Ty.open _ hf hn
 rw [Ty.is] at h2
 have hsz:us.size=row.length:=by
  have:(Value.agg us).cells.toList.length=us.size:=by simp [Value.cells]
  omega
 refine ⟨row,h2,fun g hg=> .one _ _ (.agg _ us (by simpa using hsz) fun j c u hj hu=> ?_)⟩
 rw [List.getElem?_map,Option.map_eq_some_iff] at hj
 obtain ⟨d,hd,rfl⟩:=hj
 show Ro w g.o d u
 rw [hg]
 exact h5 j d u hd (by simpa [Value.cells] using hu)
end Go.Proofs.YtdliggkohdnipaaGreat.T
