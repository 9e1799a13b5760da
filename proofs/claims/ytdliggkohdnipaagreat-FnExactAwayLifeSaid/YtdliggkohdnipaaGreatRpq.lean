import Derived.Test.YtdliggkohdnipaaGreatNwq
import Derived.Test.YtdliggkohdnipaaGreatOfq
import Derived.Test.YtdliggkohdnipaaGreatNhq
set_option linter.unusedVariables false
set_option linter.unusedSimpArgs false
namespace Go.Proofs.YtdliggkohdnipaaGreat.T
open Go
section
variable {ag:Int} {t:List aQ} {a b i j k m p:Nat} {h:ap} {u x y:aV} {s z:aQ}
def Y8 (x:aV):Prop:=x.ak.length=8∧x.Out.length=8∧x.bI.length=8∧x.Tables.length=x.aa.length
def oV (h:ap):Prop:=aj h∧h.au.length=12∧∀ x ∈ h.ai,Y8 x
def ku (h:ap):Prop:=(h.ai.flatMap gk).Nodup
theorem oV.q (hh:oV h):Q (aj h):=⟨hh.1⟩
theorem oV.cK (hh:oV h) (hx:h.ai[m]? = some x):Y8 x:=hh.2.2 x (aH hx)
theorem oV.sm (hh:oV h) (hx:h.ai[m]? = some x):bt x:=hh.1.2.1.2 x (aH hx)
theorem Mx (h1:eu h=true) (h2:aj h):oV h:=by
 refine ⟨h2, ?_,fun x hx=> ?_⟩
 simp only [eu,tg,bh,decide_eq_true_eq] at h1
 omega
 have h3:=dZ (eY.1 (by simp only [eu,bh] at h1;exact h1.1.2) x hx)
 exact ⟨h3.1,h3.2.2.2.1,h3.2.2.2.2.1,h3.2.2.1⟩
theorem B1 (h1:eu h=true):ku h:=by
 simp only [eu,bh,decide_eq_true_eq] at h1
 exact h1.2
theorem FA (hh:oV h) (hy:bt y) (hs:Y8 y):oV { h with ai:=h.ai.set m y }:=by
 refine ⟨nI hh.1 hy,hh.2.1,fun x hx=> ?_⟩
 rcases lN hx with hx|rfl
 exact hh.2.2 x hx
 exact hs
theorem WB {p:Int} (hx:x.Tables.length=x.aa.length):(fm x p).length=x.aa.length:=by
 unfold fm
 rw [List.length_zipWith]
 omega
theorem HB (hh:oV h) (hx:bt x) (hs:Y8 x):oV (jk h m x p z s):=by
 refine ⟨HA hh.1 hx,hh.2.1,fun y hy=> ?_⟩
 rcases lN hy with hy|rfl
 exact hh.2.2 y hy
 exact ⟨by show (x.ak.set _ _).length=8;rw [bD];exact hs.1,hs.2.1,hs.2.2.1,WB hs.2.2.2⟩
theorem pg_in (hs:x.ak[k]? = some s) (h0:0 ≤ s.aN):s.aN ∈ gk x:=
 List.mem_filter.2 ⟨List.mem_map_of_mem (aH hs),decide_eq_true h0⟩
theorem Y9 (hh:ku h) (hx:h.ai[i]? = some x) (hy:h.ai[j]? = some y) {p:Int} (h1:p ∈ gk x) (h2:p ∈ gk y):i=j:=by
 have h3:=(List.pairwise_iff_getElem.1 (List.pairwise_flatMap.1 hh).2)
 obtain ⟨hi,ei⟩:=aM.1 hx
 obtain ⟨hj,ej⟩:=aM.1 hy
 rcases Nat.lt_trichotomy i j with h4|h4|h4
 exact absurd rfl (h3 i j hi hj h4 p (by rw [ei];exact h1) p (by rw [ej];exact h2))
 exact h4
 exact absurd rfl (h3 j i hj hi h4 p (by rw [ej];exact h2) p (by rw [ei];exact h1))
theorem Y_ {t:aQ} (hh:ku h) (hx:h.ai[i]? = some x) (hs:x.ak[k]? = some s) (ht:x.ak[j]? = some t) (h0:0 ≤ s.aN) (he:s.aN=t.aN):k=j:=by
 have h1:=(List.pairwise_flatMap.1 hh).1 x (aH hx)
 have h3:=List.pairwise_iff_getElem.1 (List.pairwise_map.1 (List.pairwise_filter.1 h1))
 obtain ⟨hi,ei⟩:=aM.1 hs
 obtain ⟨hj,ej⟩:=aM.1 ht
 rcases Nat.lt_trichotomy k j with h4|h4|h4
 exact absurd (by rw [ei,ej];exact he) (h3 k j hi hj h4 (by rw [ei];exact decide_eq_true h0) (by rw [ej, ← he];exact decide_eq_true h0))
 exact h4
 exact absurd (by rw [ei,ej];exact he.symm) (h3 j k hj hi h4 (by rw [ej, ← he];exact decide_eq_true h0) (by rw [ei];exact decide_eq_true h0))
theorem QK (h:nA t ag=some k):∃ s,t[k]? = some s∧s.aN=ag:=by
 unfold nA at h
 rw [List.findIdx?_eq_some_iff_getElem] at h
 obtain ⟨hk,h1,_⟩:=h
 exact ⟨_,bg hk,of_decide_eq_true h1⟩
theorem QL:nA t ag=none ↔ ∀ s ∈ t,¬ s.aN=ag:=by
 unfold nA
 rw [List.findIdx?_eq_none_iff]
 exact ⟨fun h s hs=>of_decide_eq_false (h s hs),fun h s hs=>decide_eq_false (h s hs)⟩
theorem HC:∀ {l:List aV} {ag:Int} {i a b:Nat},fp l ag i=some (a,b)→∃ u s,i ≤ a∧l[a - i]? = some u∧u.ak[b]? = some s∧s.aN=ag
 | [],_,_,_,_,h=>by cases h
 | x :: l,ag,i,a,b,h=>by
  unfold fp at h
  cases h1:nA x.ak ag with
  | some p=>
   rw [h1] at h
   simp only [ea,Prod.mk.injEq] at h
   obtain ⟨s,h2,h3⟩:=QK h1
   exact ⟨x,s,by omega,by rw [← h.1,Nat.sub_self];rfl,by rw [← h.2];exact h2,h3⟩
  | none=>
   rw [h1] at h
   obtain ⟨u,s,h2,h3,h4⟩:=HC h
   exact ⟨u,s,by omega,by rw [show a - i=(a - (i + 1)) + 1 by omega];exact h3,h4⟩
theorem HD:∀ {l:List aV} {ag:Int} {i:Nat},(∀ u ∈ l,∀ s ∈ u.ak,¬ s.aN=ag)→fp l ag i=none
 | [],_,_,_=>rfl
 | x :: l,ag,i,h=>by
  unfold fp
  rw [QL.2 (h x uy)]
  exact HD fun u hu=>h u (xb _ hu)
theorem pH (ho:bV h ag=some (a,b)):∃ u s,h.ai[a]? = some u∧u.ak[b]? = some s∧s.aN=ag∧0 ≤ ag:=by
 unfold bV at ho
 split at ho
 obtain ⟨u,s,_,h1,h2,h3⟩:=HC ho
 exact ⟨u,s,h1,h2,h3,by assumption⟩
 cases ho
theorem y4 (hm:h.au.length=12) (hf:fj h=[]):∃ a b,bV h 0=some (a,b):=by
 cases ho:bV h 0 with
 | some q=>exact ⟨q.1,q.2,rfl⟩
 | none=>
  have h1:oU h 0=true:=by
   unfold oU
   rw [show ((0:Nat):Int)=0 from rfl,ho]
   rfl
  have h2:(0:Int) ∈ fj h:=by
   unfold fj dn
   rw [hm]
   exact j7.2 ⟨0,List.mem_filter.2 ⟨by simp,h1⟩,rfl⟩
  rw [hf] at h2
  cases h2
theorem HE (hu:h.ai[a]? = some u) (hs:u.ak[b]? = some s):(cy h a b).au=h.au∧(cy h a b).ai=h.ai.set a { u with Tables:=fm { u with Out:=u.Out.set b (eZ h.au s.aN) } b,Out:=u.Out.set b (eZ h.au s.aN),ak:=u.ak.set b bE }:=by
 rw [← Mh hu hs]
 refine ⟨rfl, ?_⟩
 show ((h.ai.set a _).set a _)=_
 rw [cS]
 rfl
theorem TP (hh:ku h) (ho:bV h 0=some (a,b)):bV (cy h a b) 0=none:=by
 obtain ⟨u,s,hu,hs,hp,_⟩:=pH ho
 rw [Wu (Int.le_refl 0),(HE hu hs).2]
 refine HD fun y hy t ht he=> ?_
 obtain ⟨j,hj⟩:=List.getElem?_of_mem hy
 obtain ⟨k,hk⟩:=List.getElem?_of_mem ht
 rw [nN] at hj
 split at hj
 split at hj
 simp only [ea] at hj
 rw [← hj] at hk
 rw [show ∀ a b c,(aV.mk (u.ak.set b bE) a u.bI u.aa u.cm u.av u.bn c u.Own).ak=u.ak.set b bE from fun _ _ _=>rfl,nN] at hk
 split at hk
 split at hk
 simp only [ea] at hk
 rw [← hk] at he
 cases he
 cases hk
 exact absurd (Y_ hh hu hs hk (by omega) (by omega)) ‹_›
 cases hj
 exact absurd (Y9 hh hu hj (pg_in hs (by omega)) (by rw [show s.aN=t.aN by omega];exact pg_in hk (by omega))) ‹_›
theorem TR (hm:h.au.length=12) (ho:bV h 0=none):∃ l,fj h=0 :: l:=by
 have h1:oU h 0=true:=by
  unfold oU
  rw [show ((0:Nat):Int)=0 from rfl,ho]
  rfl
 unfold fj dn
 rw [hm]
 exact ⟨_,by simp [List.range,List.range.loop,h1];rfl⟩
theorem WC (hh:oV h) (hu:h.ai[a]? = some u) (hs:u.ak[b]? = some s):oV (cy h a b):=by
 rw [← Mh hu hs]
 have hm:bt (vG h u b s):=KP hh.1 (hh.sm hu)
 have hn:Y8 (vG h u b s):=by
  have:=hh.cK hu
  exact ⟨this.1,by show (u.Out.set _ _).length=8;rw [bD];exact this.2.1,this.2.2.1,this.2.2.2⟩
 exact HB (FA hh hm hn) hm hn
theorem Za (hu:h.ai[a]? = some u) (hs:u.ak[b]? = some s) (hx:h.ai[m]? = some x) (hz:x.ak[p]? = some z) (h1:z.aN= -1) (h2:¬ s.aN= -1):
  ∃ y,(cy h a b).ai[m]? = some y∧y.ak[p]? = some z∧y.Out[p]? = x.Out[p]? :=by
 rw [(HE hu hs).2]
 by_cases hm:a=m
 subst hm
 rw [hu] at hx
 cases hx
 refine ⟨_,dS hu, ?_, ?_⟩
 rw [show ∀ a b c,(aV.mk (u.ak.set b bE) a u.bI u.aa u.cm u.av u.bn c u.Own).ak=u.ak.set b bE from fun _ _ _=>rfl,nN,if_neg (fun e=>by subst e;rw [hs] at hz;cases hz;exact h2 h1)]
 exact hz
 show (u.Out.set b _)[p]? = _
 rw [nN,if_neg (fun e=>by subst e;rw [hs] at hz;cases hz;exact h2 h1)]
 rw [nN,if_neg hm]
 exact ⟨x,hx,hz,rfl⟩
theorem B2 (hf:¬ fj h=[]):roomFor h=h:=by
 unfold roomFor
 split
 exact absurd ‹_› hf
 rfl
theorem ya (hf:fj h=[]) (ho:bV h 0=some (a,b)):roomFor h=cy h a b:=by
 unfold roomFor
 rw [hf,ho]
theorem Zb {t:Int} {l:List Int} (hm:h.au.length=12) (hf:fj h=t :: l):0 ≤ t∧t < 12:=by
 have h1:t ∈ fj h:=by rw [hf];exact uy
 have h2:=QE h1
 omega
structure Room (h:ap) (m p:Nat) (x:aV) (z:aQ) (t:Int) (l:List Int):Prop where
 hs:oV h
 hx:h.ai[m]? = some x
 hz:x.ak[p]? = some z
 hf:fj h=t :: l
 ht:0 ≤ t∧t < 12
theorem y5 (hs:oV h) (ha:ku h) (hx:h.ai[m]? = some x) (hz:x.ak[p]? = some z) (h1:z.aN= -1):∃ y t l,Room (roomFor h) m p y z t l∧y.Out[p]? = x.Out[p]? :=by
 by_cases hf:fj h=[]
 obtain ⟨a,b,ho⟩:=y4 hs.2.1 hf
 obtain ⟨u,s,hu,hw,hp,_⟩:=pH ho
 rw [ya hf ho]
 have hq:=WC hs hu hw
 obtain ⟨y,h2,h3,h4⟩:=Za hu hw hx hz h1 (by omega)
 obtain ⟨l,hl⟩:=TR hq.2.1 (TP ha ho)
 exact ⟨y,0,l,⟨hq,h2,h3,hl,by omega⟩,h4⟩
 rw [B2 hf]
 cases hl:fj h with
 | nil=>exact absurd hl hf
 | cons t l=>exact ⟨x,t,l,⟨hs,hx,hz,hl,Zb hs.2.1 hl⟩,rfl⟩
end
section
variable {qA:Array TypeId} {m:Bool} {fn:Func} {f:FuncId} {g0:Gh} {K:Kn} {args:List Operand} {ts:List TS} {fV:List TV} {d n:Nat} {o:Oper} {cx:Operand} {P:Program} {rs:Rs} {st:St} {t:TS} {u:Value} {w0:World}
def roC:C→Bool
 | .ro _=>true
 | .own _=>false
 | .ref _=>false
 | .dead=>false
def Zc:List C→Bool
 | []=>true
 | c :: l=>roC c && Zc l
def roV:TV→Bool
 | .c x=>roC x
 | .agg cs=>Zc cs
 | .b9 _=>true
 | _=>false
def Zd:List TV→Bool
 | []=>true
 | c :: l=>roV c && Zd l
def roS:TS→Bool
 | .one t=>roV t
 | .mj ts=>Zd ts
 | .fn _ _=>false
def QM:List TS→Bool
 | []=>true
 | c :: l=>roS c && QM l
def B3:Tag→Tag
 | .ro=> .ro
 | _=> .outer
theorem OM {t:Tag}:B3 t= .ro ↔ t= .ro:=by cases t <;> simp [B3]
theorem ON (t:Tag):B3 t= .ro ∨ B3 t= .outer:=by cases t <;> simp [B3]
theorem OO:∀ {l:List C},Zc l=true→∀ c ∈ l,roC c=true
 | c :: l,h,x,hx=>by
  have h:(roC c && Zc l)=true:=h
  rw [bh] at h
  rcases m8.1 hx with rfl|hx
  exact h.1
  exact OO h.2 x hx
theorem OP:∀ {l:List TV},Zd l=true→∀ c ∈ l,roV c=true
 | c :: l,h,x,hx=>by
  have h:(roV c && Zd l)=true:=h
  rw [bh] at h
  rcases m8.1 hx with rfl|hx
  exact h.1
  exact OP h.2 x hx
theorem HG:∀ {l:List TS},QM l=true→∀ c ∈ l,roS c=true
 | c :: l,h,x,hx=>by
  have h:(roS c && QM l)=true:=h
  rw [bh] at h
  rcases m8.1 hx with rfl|hx
  exact h.1
  exact HG h.2 x hx
section
variable {P:Program} {w0 w w':World} {g0 g g':Gh} {st:St} {a:Act}
theorem Sn {c:C} (hm:∀ b,g.o b= .ro→g'.o b= .ro∧w'.heap[b]? = w.heap[b]?) (h:roC c=true) (hr:gC w g c u):gC w' g' c u:=by
 cases c with
 | ro d=>exact Ro.mono hm hr
 | _=>cases h
theorem So {t:TV} (hm:∀ b,g.o b= .ro→g'.o b= .ro∧w'.heap[b]? = w.heap[b]?) (h:roV t=true) (hr:eV w g t u):eV w' g' t u:=by
 cases hr with
 | c c u hv=>exact .c c u (Sn hm h hv)
 | agg cs us hs hv=>exact .agg cs us hs fun j c u h1 h2=>Sn hm (OO h c (aH h1)) (hv j c u h1 h2)
 | b9 ds b off us ho hcell=>exact .b9 ds b off us (hm b ho).1 fun j d hj=>⟨by rw [jA (hm b ho).2];exact (hcell j d hj).1,(hcell j d hj).2.mono hm⟩
 | _=>cases h
theorem FB (hm:∀ b,g.o b= .ro→g'.o b= .ro∧w'.heap[b]? = w.heap[b]?) (h:roS t=true) (hr:dN w g t u):dN w' g' t u:=by
 cases hr with
 | one t u h1=>exact .one t u (So hm h h1)
 | mj ts us hs hv=>exact .mj ts us hs fun j t u h1 h2=>So hm (OP h t (aH h1)) (hv j t u h1 h2)
 | fn f fV us hs hv=>cases h
end
def pI (P:Program) (f:FuncId) (pts:List TS) (t:TS):Prop:=
 ∀ (w:World) (g:Gh) (args:Array Value),(∀ b,b < w.heap.size→g.o b= .ro ∨ g.o b= .outer)→(∀ b,w.heap.size ≤ b→g.o b= .outer)→args.size=pts.length→
  (∀ (i:Nat) t u,pts[i]? = some t→args[i]? = some u→dN w g t u)→
  Calls P f args w fun e w'=>∃ v g',e= .returned v∧hJ w w'∧(∀ b,g'.o b= .ro→(b < w.heap.size∧g.o b= .ro) ∨ (w.heap.size ≤ b∧b < w'.heap.size))∧dN w' g' t v
inductive QN (st:St):TV→TV→Prop
 | c {x x':C} (h:FY st x x'):QN st (.c x) (.c x')
 | agg {l l':List C} (h:xf st l l'):QN st (.agg l) (.agg l')
 | b9 (ds:List D):QN st (.b9 ds) (.b9 ds)
inductive HH (st:St):List TV→List TV→Prop
 | nil:HH st [] []
 | cons {t t':TV} {l l':List TV} (h:QN st t t') (hl:HH st l l'):HH st (t :: l) (t' :: l')
theorem HH.get {ts ts':List TV} (h:HH st ts ts'):ts'.length=ts.length∧∀ (i:Nat) t',ts'[i]? = some t'→∃ t,ts[i]? = some t∧QN st t t':=by
 induction h with
 | nil=>exact ⟨rfl,fun i t' hi=>by simp at hi⟩
 | cons h hs ih=>
  refine ⟨by simp [ih.1],fun i t' hi=> ?_⟩
  cases i with
  | zero=>
   simp only [List.getElem?_cons_zero,ea] at hi
   subst hi
   exact ⟨_,rfl,h⟩
  | succ i=>exact ih.2 i t' (by simpa using hi)
def WE (P:Program) (fn:Func) (t:TS) (e:Exit) (st:St):Prop:=
 (e= .normal ∨ e= .ret)∧∃ (w6:List ResultVar) (dm EF:List TV),fn.results=w6.toArray∧w6.length ≤ 4∧w6.map (uA P st)=dm.map some∧HH st dm EF∧t=oO EF
section
variable {P:Program}
theorem pI.of {f:FuncId} {fn:Func} {c:Code} {pts:List TS} {t:TS} (hf:P.funcs[f]? = some fn) (hb:fn.body=some c) (hn:pts.length ≤ fn.ntmps)
  (h:∀ (w:World) (g0:Gh),TC P w g0 c ⟨pts ++ List.replicate (fn.ntmps - pts.length) (.one .dead),[]⟩ (WE P fn t)):pI P f pts t:=by
 intro w g args hg oe hsz hargs
 refine calls_of_wp hf hb (wp_mono (h w g _ w g ⟨fun i tv hi=> ?_, ?_,rfl,⟨fun k r hk=> ?_,fun k r hk=> ?_⟩,⟨rfl,rfl,rfl,gL _,fun b hb _=>⟨rfl,rfl⟩,fun b hb=>oe b hb,fun b hb ho=>⟨hb,ho⟩,⟨fun _=>rfl,rfl⟩,fun b=> ?_⟩⟩) fun e a w' ⟨st,g',hE,hR⟩=> ?_)
 by_cases hlt:i < pts.length
 rw [rZ hlt] at hi
 have hi':i < args.size:=by omega
 have h1:(args ++ Array.replicate (fn.ntmps - args.size) undef).getD i undef=args[i]:=by
  rw [Array.getD_eq_getD_getElem?,Array.getElem?_append_left hi',rY hi']
  rfl
 show dN w g tv ((args ++ Array.replicate (fn.ntmps - args.size) undef).getD i undef)
 rw [h1]
 exact hargs i tv _ hi (rY hi')
 rw [nO (by omega),List.getElem?_replicate] at hi
 split at hi
 simp only [ea] at hi
 subst hi
 exact .one _ _ (.dead _)
 cases hi
 show (args ++ Array.replicate (fn.ntmps - args.size) undef).size=_
 simp [hsz]
 simp [St.root] at hk
 simp [St.root] at hk
 rcases Nat.lt_or_ge b w.heap.size with h1|h1
 rcases hg b h1 with h2|h2 <;> rw [h2] <;> simp
 rw [oe b h1];simp
 obtain ⟨he,w6,dm,EF,h1,h2,h3,h4,h5⟩:=hE
 have hlen:w6.length=dm.length:=by
  have:=congrArg List.length h3
  simpa using this
 obtain ⟨us,Rp,Rq,zq⟩:=hR.resultList h3
 have hrun:=qq (P:=P) h1 h2 a.tmps w' Rp Rq
 have hL:hJ w w':=⟨hR.ks.os,hR.ks.tape,hR.ks.output,hR.ks.size,fun b hb=>(hR.ks.block b hb (hg b hb)).1⟩
 let gf:Gh:={ g' with o:=fun b=>if b < w.heap.size then g.o b else if b < w'.heap.size then .ro else .outer }
 have hgf:∀ b,g'.o b= .ro→gf.o b= .ro∧w'.heap[b]? = w'.heap[b]? :=fun b hb=>by
  refine ⟨?_,rfl⟩
  show (if b < w.heap.size then g.o b else if b < w'.heap.size then Tag.ro else Tag.outer)= .ro
  rcases Nat.lt_or_ge b w.heap.size with h6|h6
  rw [if_pos h6, ← (hR.ks.block b h6 (hg b h6)).2];exact hb
  rw [if_neg (by omega)]
  rcases Nat.lt_or_ge b w'.heap.size with h7|h7
  rw [if_pos h7]
  rw [hR.ks.fresh b h7] at hb;cases hb
 have gT:∀ k b,(g'.o b).gZ = some k→b < w'.heap.size→gf.o b= .ro:=fun k b hb h7=>by
  show (if b < w.heap.size then g.o b else if b < w'.heap.size then Tag.ro else Tag.outer)= .ro
  rcases Nat.lt_or_ge b w.heap.size with h6|h6
  rw [(hR.ks.block b h6 (hg b h6)).2] at hb
  rcases hg b h6 with h8|h8 <;> rw [h8] at hb <;> cases hb
  rw [if_neg (by omega),if_pos h7]
 have hC:∀ c c' u,FY st c c'→gC w' g' c u→gC w' gf c' u:=fun c c' u hs hv=>by
  cases hs with
  | ro d=>exact Ro.mono hgf hv
  | ref h hw=>
   have h8:u=_:=hv.1
   rw [h8]
   exact ((hR.cellAt h).1 _ rfl).roAt hw fun b hb hlt=>gT _ b hb hlt
 have hV:∀ t t' u,QN st t t'→eV w' g' t u→eV w' gf t' u:=fun t t' u hs hv=>by
  cases hs with
  | c h=>cases hv with|c _ _ hv=>exact .c _ _ (hC _ _ _ h hv)
  | @agg l0 l1 h=>
   cases hv with
   | agg _ us hsz hv=>
    obtain ⟨h6,h7⟩:=h.get
    refine .agg _ us (by rw [h6];exact hsz) fun j c' u hj hu=> ?_
    have hj':j < l0.length:=by rw [← h6];exact (aM.1 hj).1
    exact hC _ _ _ (h7 j _ c' (bg hj') hj) (hv j _ u (bg hj') hu)
  | b9 ds=>cases hv with|b9 _ b off us ho hcell=>exact .b9 ds b off us (hgf b ho).1 fun j d hj=>⟨(hcell j d hj).1,(hcell j d hj).2.mono hgf⟩
 have h6:=h4.get
 have hrep':∀ (i:Nat) t u,EF[i]? = some t→us[i]? = some u→eV w' gf t u:=fun i t u hi hu=>by
  obtain ⟨t0,h7,h8⟩:=h6.2 i t hi
  exact hV _ _ _ h8 (zq i t0 u h7 hu)
 have ho:∀ b,gf.o b= .ro→(b < w.heap.size∧g.o b= .ro) ∨ (w.heap.size ≤ b∧b < w'.heap.size):=fun b hb=>by
  have hb:(if b < w.heap.size then g.o b else if b < w'.heap.size then Tag.ro else Tag.outer)= .ro:=hb
  rcases Nat.lt_or_ge b w.heap.size with h6|h6
  rw [if_pos h6] at hb
  exact .inl ⟨h6,hb⟩
  rw [if_neg (by omega)] at hb
  rcases Nat.lt_or_ge b w'.heap.size with h7|h7
  exact .inr ⟨h6,h7⟩
  rw [if_neg (by omega)] at hb;cases hb
 have hval:dN w' gf (oO EF) (Eg us):=by
  have Ln:∀ l:List Value,l.length=EF.length→(∀ (i:Nat) t u,EF[i]? = some t→l[i]? = some u→eV w' gf t u)→dN w' gf (.mj EF) (.tuple l.toArray):=fun l hl hh=>
   .mj _ _ (by simp [hl]) fun j t u hj hu=>hh j t u hj (by simpa using hu)
  have hl:=Ln us (by rw [h6.1];omega) hrep'
  have X1:us.length=EF.length:=by rw [h6.1];omega
  clear hrun Rq h3 h4 h5 h6 zq
  match us,EF,X1 with
  | [],[],_=>exact hl
  | [t],[tv],_=>exact .one _ _ (hrep' 0 tv _ rfl rfl)
  | _ :: _ :: _,_ :: _ :: _,_=>exact hl
 have xd:∃ v,(results fn a.tmps).run P w'= .ok v w'∧∃ v_1 g',Ending.returned v=Ending.returned v_1∧hJ w w'∧(∀ b,g'.o b= .ro→(b < w.heap.size∧g.o b= .ro) ∨ (w.heap.size ≤ b∧b < w'.heap.size))∧dN w' g' t v_1:=
  ⟨_,hrun,_,gf,rfl,hL,ho,by rw [h5];exact hval⟩
 rcases he with rfl|rfl
 exact ⟨hR.df,xd⟩
 exact ⟨hR.df,xd⟩
variable {w0:World} {g0:Gh} {st:St}
theorem s3.KS {Q:St→Prop} (ho:o.op= .call { callee:= .value cx,args:=args.toArray,argTypes:=qA }) (m9:T.cH 0 st cx=some (.fn f [])) 
  (hf : P.funcs[f]? = some fn) (hb : fn.body.isNone = false) (hn : (fn.name == "runtime.NumGoroutine") = false) {ts : List TS} (hx : kV st args = some ts) {t : TS} (hc : pI P f ts t) (hro : QM ts = true) (hrt : roS t = true)
  (hq:Q (st.put o.dst t)):s3 P w0 g0 o st Q:=fun a w g hR K' Lu=>by
 have h1:=hR.kV hx
 let gc:Gh:={ g with o:=fun b=>B3 (g.o b) }
 have PX:∀ b,gc.o b= .ro ↔ g.o b= .ro:=fun b=>OM
 have kX:=hc w gc (args.map a.eval).toArray (fun b hb=>ON _) (fun b hb=>by
  show B3 (g.o b)= .outer
  rw [hR.ks.fresh b hb];rfl) (by simp [h1.1]) (fun i t u hi hu=>FB (fun b hb=>⟨(PX b).2 hb,rfl⟩) (HG hro t (aH hi)) (h1.2 i t u hi (by simpa using hu)))
 rw [mq hR ho m9 hf hb hn w]
 refine ⟨hJ.refl w,kX.mono fun e w' ⟨v,g',he,hL,hg',hv⟩=>⟨v,he,hL,Lu _ _ _ _ hq ((hR.later hL).put (FB (fun b hb=>⟨?_,rfl⟩) hrt hv) o.dst)⟩⟩
 show (if b < w.heap.size then g.o b else if b < w'.heap.size then Tag.ro else Tag.outer)= .ro
 rcases hg' b hb with ⟨h2,h3⟩|⟨h2,h3⟩
 rw [if_pos h2];exact (PX b).1 h3
 rw [if_neg (by omega),if_pos h3]
theorem s3.My {Q:St→Prop} (ho:o.op= .call { callee:= .value cx,args:=args.toArray,argTypes:=qA }) (m9:T.cH 0 st cx=some (.fn f fV)) 
  (hf : P.funcs[f]? = some fn) (hb : fn.body.isNone = false) (hn : (fn.name == "runtime.NumGoroutine") = false) {ts : List TS} (hx : kV st args = some ts) {t : TS} (hc : pI P f (ts ++ fV.map TS.one) t) (hro : QM (ts ++ fV.map TS.one) = true) (hrt : roS t = true)
  (hq:Q (st.put o.dst t)):s3 P w0 g0 o st Q:=fun a w g hR K' Lu=>by
 obtain ⟨us,he,h1,JL⟩:=hR.RA m9 hx
 let gc:Gh:={ g with o:=fun b=>B3 (g.o b) }
 have PX:∀ b,gc.o b= .ro ↔ g.o b= .ro:=fun b=>OM
 have kX:=hc w gc ((args.map a.eval).toArray ++ us) (fun b hb=>ON _) (fun b hb=>by
  show B3 (g.o b)= .outer
  rw [hR.ks.fresh b hb];rfl) (by rw [h1]) (fun i t u hi hu=>FB (fun b hb=>⟨(PX b).2 hb,rfl⟩) (HG hro t (aH hi)) (JL i t u hi hu))
 rw [vp he ho hf hb hn w]
 refine ⟨hJ.refl w,kX.mono fun e w' ⟨v,g',he,hL,hg',hv⟩=>⟨v,he,hL,Lu _ _ _ _ hq ((hR.later hL).put (FB (fun b hb=>⟨?_,rfl⟩) hrt hv) o.dst)⟩⟩
 show (if b < w.heap.size then g.o b else if b < w'.heap.size then Tag.ro else Tag.outer)= .ro
 rcases hg' b hb with ⟨h2,h3⟩|⟨h2,h3⟩
 rw [if_pos h2];exact (PX b).1 h3
 rw [if_neg (by omega),if_pos h3]
end
def frzW (rs:Rs) (t:TV) (k:TV→Prop):Prop:=match t with
 | .c c=>Gu rs c fun c=>k (.c c)
 | .agg cs=>Fq rs cs fun cs=>k (.agg cs)
 | .b9 ds=>k (.b9 ds)
 | _=>False
def WG (rs:Rs):List TV→(List TV→Prop)→Prop
 | [],k=>k []
 | t :: l,k=>frzW rs t fun t=>WG rs l fun l=>k (t :: l)
theorem Ze {e:List En} {t:TV} {k:TV→Prop} (h:frzW rs t k):∃ t',QN (aZ n e rs) t t'∧k t':=by
 unfold frzW at h
 split at h
 obtain ⟨c',h1,h2⟩:=CQ (n:=n) (e:=e) h
 exact ⟨_, .c h1,h2⟩
 obtain ⟨c',h1,h2⟩:=Az (n:=n) (e:=e) h
 exact ⟨_, .agg h1,h2⟩
 exact ⟨_, .b9 _,h⟩
 exact h.elim
theorem OQ {n:Nat} {e:List En} {rs:Rs}:∀ {l:List TV} {k:List TV→Prop},WG rs l k→∃ l',HH (aZ n e rs) l l'∧k l'
 | [],k,h=>⟨[], .nil,h⟩
 | t :: l,k,h=>by
  obtain ⟨t',h1,h2⟩:=Ze (n:=n) (e:=e) h
  obtain ⟨l',h3,h4⟩:=OQ (l:=l) h2
  exact ⟨_, .cons h1 h3,h4⟩
def WH (P:Program) (n:Nat) (rv:List ResultVar) (t:TS) (e:List En) (rs:Rs):Prop:=Kt P n e rs rv fun dm=>BR (Nat.ble rv.length 4) (WG rs dm fun dm=>t=oO dm) False
def endA (P:Program) (n:Nat) (rv:List ResultVar) (t:TS):Kx:=fun ex e rs=>match ex with
 | .normal=>WH P n rv t e rs
 | .ret=>WH P n rv t e rs
 | _=>False
theorem Zf {ex:Exit} (h:Lf n (endA P n fn.results.toList t) ex st):WE P fn t ex st:=by
 obtain ⟨e,rs,rfl,h⟩:=h
 have key:WH P n fn.results.toList t e rs→∀ ex,(ex= .normal ∨ ex= .ret)→WE P fn t ex (aZ n e rs):=fun h ex hex=>by
  obtain ⟨dm,h1,h2⟩:=xu h
  obtain ⟨h3,h4⟩:=bQ h2
  obtain ⟨EF,h5,h6⟩:=OQ (n:=n) (e:=e) h4
  exact ⟨hex,fn.results.toList,dm,EF,rfl,fA h3,h1,h5,h6⟩
 unfold endA at h
 split at h
 exact key h _ (.inl rfl)
 exact key h _ (.inr rfl)
 exact h.elim
theorem pI.w {c:Code} {pts:List TS} (n:Nat) (hf:P.funcs[f]? = some fn) (h:∀ w g0,jq pts→sj 0 pts fun e=>wC P w g0 n c e [] (endA P n fn.results.toList t)) 
  (hb:fn.body=some c:=by exact rfl) (hn:fn.ntmps=n:=by exact rfl) (eW:Nat.ble pts.length n=true:=by exact rfl):pI P f pts t:=by
 have hl:=fA eW
 subst hn
 refine pI.of hf hb hl fun w g0=>TC.jq fun hM=> ?_
 obtain ⟨e,h1,h2⟩:=jC (m:=0) (h w g0 hM)
 rw [mA hl h1]
 exact (n7 h2).mono fun ex st hl=>Zf hl
theorem KS {e:List En} (hc:pI P f ts t) (hk:nR t fun t=>K (.set d t :: e) rs) 
  (hro:QM ts=true:=by exact rfl) (hrt:roS t=true:=by exact rfl) (hf:ep P f:=by exact .mk rfl rfl rfl):wi m P w0 g0 n e rs f ts (some d) K:=⟨fun o cx args qA ho m9 hd hx=>by
 obtain ⟨fn,h1,h2,h3⟩:=hf
 refine .of (s3.KS ho m9 h1 h2 h3 hx hc hro hrt ?_)
 rw [hd]
 exact .put (gN.1 hk)⟩
theorem My {e:List En} (hc:pI P f (ts ++ fV.map TS.one) t) (hk:nR t fun t=>K (.set d t :: e) rs) 
  (hro:QM (ts ++ fV.map TS.one)=true:=by exact rfl) (hrt:roS t=true:=by exact rfl) (hf:ep P f:=by exact .mk rfl rfl rfl):N6 m P w0 g0 n e rs f ts fV (some d) K:=⟨fun o cx args qA ho m9 hd hx=>by
 obtain ⟨fn,h1,h2,h3⟩:=hf
 refine .of (s3.My ho m9 h1 h2 h3 hx hc hro hrt ?_)
 rw [hd]
 exact .put (gN.1 hk)⟩
end
end Go.Proofs.YtdliggkohdnipaaGreat.T
