import Derived.Test.YtdliggkohdnipaaGreatHdr
import Derived.Test.YtdliggkohdnipaaGreatOcr
import Derived.Test.YtdliggkohdnipaaGreatHbr
import Derived.Test.YtdliggkohdnipaaGreatHer
import Derived.Test.YtdliggkohdnipaaGreatOer
import Derived.Test.YtdliggkohdnipaaGreatNwr
import Derived.Test.YtdliggkohdnipaaGreatRor
set_option linter.unusedVariables false
set_option linter.unusedSimpArgs false
namespace Go.Proofs.YtdliggkohdnipaaGreat.T
open Go
set_option maxRecDepth 100000
set_option maxHeartbeats 1000000
theorem uR (xs:List Int) (k:Int) (h1:0 ≤ k) (h2:k + eI xs ≤ 1000000000000000) (jg:c4 xs):aF Tryz.prog 53 [L 1 ((lD k xs).map bH),I k] (RV (.int .i64 (k + eI xs))):=by
 refine aF.w 21 Tryz.func53 fun w g0 _=> ?_
 refine gA [] [] [] (fun (i:Nat)=>[.set 0 (L 1 ((lD k xs).map bH)), .set 1 (I (k + aU fS (xs.take i))), .set 5 (I i)]) (fun (i:Nat)=>[]) (fun (i:Nat)=>i ≤ xs.length) (fun (i:Nat)=>xs.length - i) (0) (by simp) ?_
 refine ⟨(vv (by repeat' first|exact rfl|refine And.intro ?_ ?_|exact True.intro|(refine eV ?_;simp [aU]))),fun i hyp N1 bw=> ?_⟩
 have hyp:i ≤ xs.length:=hyp
 refine len ?_
 refine eJ (fun hb=> ?_) (fun hb=> ?_)
 ·have hi:i < xs.length:=by simpa [kN] using hb
  have hlen:xs.length ≤ 2097152:=Nat.le_trans (show xs.length ≤ 1048576 from jg) (by decide)
  obtain ⟨x,hx⟩:=ev (xs:=xs) (k:=i) hi
  have hcs:=fG (c:=fS) hx
  have xF:=iA q5 xs (i + 1)
  have hc0:=cP q5 (xs.take i)
  have hcd:aU fS xs=eI xs:=rfl
  have hg:(lD k xs)[i]? = some (za (k + aU fS (xs.take i)) x):=gT za fS k hx
  generalize Wc:aU fS (xs.take i)=m at *
  simp only [fS] at hcs
  refine fN hg ?_
  refine eJ (fun hb=> ?_) (fun hb=> ?_)
  ·(exfalso;(simp [za] at hb;done))
  ·refine cD ?_
   refine cD ?_
   refine bw _ _ _ ?_
   refine vu [] (i + 1) (by omega) (by repeat' first|exact rfl|refine And.intro ?_ ?_|exact True.intro|(refine eV ?_;(exact congrArg (fun z:Int=>(I z:TS)) (by rw [hcs];omega))))
 ·refine bw _ _ _ ?_
  exact ay (by have hn:i=xs.length:=(by simp [kN] at hb;omega);subst hn;rw [List.take_length];rfl)
set_option maxHeartbeats 8000000
theorem AH {α:Type} {c: α→Int} {N:Int}:∀ {xs:List α},(∀ x ∈ xs,c x ≤ N)→aU c xs ≤ N * xs.length
 | [],_=>by simp [aU]
 | x :: l,h=>by
  have h1:=h x List.mem_cons_self
  have h2:=AH (xs:=l) fun y hy=>h y (List.mem_cons_of_mem _ hy)
  simp only [aU,List.length_cons]
  have h3:N * ((l.length + 1:Nat):Int)=N * l.length + N:=by rw [Int.natCast_add,Int.mul_add];simp
  omega
theorem Na {α:Type} {c: α→Int} {N:Int} {xs:List α} (hN:0 ≤ N) (h:∀ x ∈ xs,c x ≤ N) (hl:xs.length ≤ 1048576):aU c xs ≤ N * 1048576:=
 Int.le_trans (AH h) (Int.mul_le_mul_of_nonneg_left (by omega) hN)
theorem UN {xs:List Int} (h:c4 xs):eI xs ≤ 1048576:=by
 have:=Na (c:=fS) (N:=1) (by decide) (fun x _=>by simp [fS]) h
 unfold eI
 omega
section
variable {h:an}
set_option maxRecDepth 100000
set_option maxHeartbeats 8000000
theorem FQ {m p:Nat} {x:aO} {z s:aL} (hh:aj h) (hx:bf x):aj (iC h m x p z s):=by
 refine ⟨hh.1,⟨by show (h.ap.set _ _).length ≤ _;rw [List.length_set];exact hh.2.1.1,fun y hy=> ?_⟩, ?_, ?_⟩
 rcases List.mem_or_eq_of_mem_set hy with hy|rfl
 exact hh.2.1.2 y hy
 exact ⟨by show (x.ai.set _ _).length ≤ _;rw [List.length_set];exact hx.1,hx.2.1,hx.2.2.1,hx.2.2.2.1,hx.2.2.2.2.1,QK hx⟩
 show dh (if _ then _ else _)
 split
 exact hh.2.2.1
 exact Ay hh.2.2.1
 show dh (if _ then _ else _)
 split
 exact hh.2.2.2
 exact Ay hh.2.2.2
theorem Nb {h:an} {m p:Int}:guard h m p=none ∨ ∃ x z,h.ap[m.toNat]? = some x∧x.ai[p.toNat]? = some z∧dL h=true∧(guard h m p=some (jB h m.toNat x p.toNat) ∨ guard h m p=some (guarded h m.toNat x p.toNat z)):=by
 cases hp:dG h m p with
 | false=>exact .inl (FG hp)
 | true=>
  have Ax:=eS.1 hp
  have hx:h.ap[m.toNat]? = some (h.ap[m.toNat]'(by omega)):=List.getElem?_eq_getElem (by omega)
  have hmo:=dB (dU Ax.1 hx)
  have hz:(h.ap[m.toNat]'(by omega)).ai[p.toNat]? = some ((h.ap[m.toNat]'(by omega)).ai[p.toNat]'(by omega)):=List.getElem?_eq_getElem (by omega)
  refine .inr ⟨_,_,hx,hz,Ax.1, ?_⟩
  rcases Decidable.em (((h.ap[m.toNat]'(by omega)).ai[p.toNat]'(by omega)).aJ= -1) with h1|h1
  exact .inl (by rw [mI hp,FE hx hz h1])
  exact .inr (by rw [mI hp,FF hx hz h1])
theorem FR {m p:Int} (hh:aj h):aj ((guard h m p).getD h):=by
 rcases @Nb h m p with h1|⟨x,z,hx,hz,_,h1⟩
 rw [h1];exact hh
 have hm:=hh.2.1.2 x (List.mem_of_getElem? hx)
 rcases h1 with h1|h1
 rw [h1];exact mj hh (DX hm)
 rw [h1];exact FQ (mj hh (DX hm)) (DX hm)
end
section
variable {ag:Int} {t:List aL} {a b i j k m p:Nat} {h:an} {u x y:aO} {s z:aL}
def Xm (x:aO):Prop:=x.ai.length=8∧x.Out.length=8∧x.a_.length=8∧x.Tables.length=x.aa.length
def nD (h:an):Prop:=aj h∧h.au.length=12∧∀ x ∈ h.ap,Xm x
def jE (h:an):Prop:=(h.ap.flatMap fC).Nodup
theorem nD.q (hh:nD h):Q (aj h):=⟨hh.1⟩
theorem nD.cE (hh:nD h) (hx:h.ap[m]? = some x):Xm x:=hh.2.2 x (List.mem_of_getElem? hx)
theorem nD.sm (hh:nD h) (hx:h.ap[m]? = some x):bf x:=hh.1.2.1.2 x (List.mem_of_getElem? hx)
theorem KW (h1:dL h=true) (h2:aj h):nD h:=by
 refine ⟨h2, ?_,fun x hx=> ?_⟩
 simp only [dL,rL,Bool.and_eq_true,decide_eq_true_eq] at h1
 omega
 have h3:=dB (List.all_eq_true.1 (by simp only [dL,Bool.and_eq_true] at h1;exact h1.1.2) x hx)
 exact ⟨h3.1,h3.2.2.2.1,h3.2.2.2.2.1,h3.2.2.1⟩
theorem AI (h1:dL h=true):jE h:=by
 simp only [dL,Bool.and_eq_true,decide_eq_true_eq] at h1
 exact h1.2
theorem D1 (hh:nD h) (hy:bf y) (hs:Xm y):nD { h with ap:=h.ap.set m y }:=by
 refine ⟨mj hh.1 hy,hh.2.1,fun x hx=> ?_⟩
 rcases List.mem_or_eq_of_mem_set hx with hx|rfl
 exact hh.2.2 x hx
 exact hs
theorem UO {p:Int} (hx:x.Tables.length=x.aa.length):(eL x p).length=x.aa.length:=by
 unfold eL
 rw [List.length_zipWith]
 omega
theorem FT (hh:nD h) (hx:bf x) (hs:Xm x):nD (iC h m x p z s):=by
 refine ⟨FQ hh.1 hx,hh.2.1,fun y hy=> ?_⟩
 rcases List.mem_or_eq_of_mem_set hy with hy|rfl
 exact hh.2.2 y hy
 exact ⟨by show (x.ai.set _ _).length=8;rw [List.length_set];exact hs.1,hs.2.1,hs.2.2.1,UO hs.2.2.2⟩
theorem YE (hs:x.ai[k]? = some s) (h0:0 ≤ s.aJ):s.aJ ∈ fC x:=
 List.mem_filter.2 ⟨List.mem_map_of_mem (List.mem_of_getElem? hs),decide_eq_true h0⟩
theorem Xn (hh:jE h) (hx:h.ap[i]? = some x) (hy:h.ap[j]? = some y) {p:Int} (h1:p ∈ fC x) (h2:p ∈ fC y):i=j:=by
 have h3:=(List.pairwise_iff_getElem.1 (List.pairwise_flatMap.1 hh).2)
 obtain ⟨hi,ei⟩:=List.getElem?_eq_some_iff.1 hx
 obtain ⟨hj,ej⟩:=List.getElem?_eq_some_iff.1 hy
 rcases Nat.lt_trichotomy i j with h4|h4|h4
 exact absurd rfl (h3 i j hi hj h4 p (by rw [ei];exact h1) p (by rw [ej];exact h2))
 exact h4
 exact absurd rfl (h3 j i hj hi h4 p (by rw [ej];exact h2) p (by rw [ei];exact h1))
theorem Xo {t:aL} (hh:jE h) (hx:h.ap[i]? = some x) (hs:x.ai[k]? = some s) (ht:x.ai[j]? = some t) (h0:0 ≤ s.aJ) (he:s.aJ=t.aJ):k=j:=by
 have h1:=(List.pairwise_flatMap.1 hh).1 x (List.mem_of_getElem? hx)
 have h3:=List.pairwise_iff_getElem.1 (List.pairwise_map.1 (List.pairwise_filter.1 h1))
 obtain ⟨hi,ei⟩:=List.getElem?_eq_some_iff.1 hs
 obtain ⟨hj,ej⟩:=List.getElem?_eq_some_iff.1 ht
 rcases Nat.lt_trichotomy k j with h4|h4|h4
 exact absurd (by rw [ei,ej];exact he) (h3 k j hi hj h4 (by rw [ei];exact decide_eq_true h0) (by rw [ej, ← he];exact decide_eq_true h0))
 exact h4
 exact absurd (by rw [ei,ej];exact he.symm) (h3 j k hj hi h4 (by rw [ej, ← he];exact decide_eq_true h0) (by rw [ei];exact decide_eq_true h0))
theorem Pa (h:l_ t ag=some k):∃ s,t[k]? = some s∧s.aJ=ag:=by
 unfold l_ at h
 rw [List.findIdx?_eq_some_iff_getElem] at h
 obtain ⟨hk,h1,_⟩:=h
 exact ⟨_,List.getElem?_eq_getElem hk,of_decide_eq_true h1⟩
theorem Pb:l_ t ag=none ↔ ∀ s ∈ t,¬ s.aJ=ag:=by
 unfold l_
 rw [List.findIdx?_eq_none_iff]
 exact ⟨fun h s hs=>of_decide_eq_false (h s hs),fun h s hs=>decide_eq_false (h s hs)⟩
theorem FU:∀ {l:List aO} {ag:Int} {i a b:Nat},eN l ag i=some (a,b)→∃ u s,i ≤ a∧l[a - i]? = some u∧u.ai[b]? = some s∧s.aJ=ag
 | [],_,_,_,_,h=>by cases h
 | x :: l,ag,i,a,b,h=>by
  unfold eN at h
  cases h1:l_ x.ai ag with
  | some p=>
   rw [h1] at h
   simp only [Option.some.injEq,Prod.mk.injEq] at h
   obtain ⟨s,h2,h3⟩:=Pa h1
   exact ⟨x,s,by omega,by rw [← h.1,Nat.sub_self];rfl,by rw [← h.2];exact h2,h3⟩
  | none=>
   rw [h1] at h
   obtain ⟨u,s,h2,h3,h4⟩:=FU h
   exact ⟨u,s,by omega,by rw [show a - i=(a - (i + 1)) + 1 by omega];exact h3,h4⟩
theorem FV:∀ {l:List aO} {ag:Int} {i:Nat},(∀ u ∈ l,∀ s ∈ u.ai,¬ s.aJ=ag)→eN l ag i=none
 | [],_,_,_=>rfl
 | x :: l,ag,i,h=>by
  unfold eN
  rw [Pb.2 (h x List.mem_cons_self)]
  exact FV fun u hu=>h u (List.mem_cons_of_mem _ hu)
theorem nW (ho:bN h ag=some (a,b)):∃ u s,h.ap[a]? = some u∧u.ai[b]? = some s∧s.aJ=ag∧0 ≤ ag:=by
 unfold bN at ho
 split at ho
 obtain ⟨u,s,_,h1,h2,h3⟩:=FU ho
 exact ⟨u,s,h1,h2,h3,by assumption⟩
 cases ho
theorem xk (hm:h.au.length=12) (hf:eE h=[]):∃ a b,bN h 0=some (a,b):=by
 cases ho:bN h 0 with
 | some q=>exact ⟨q.1,q.2,rfl⟩
 | none=>
  have h1:nC h 0=true:=by
   unfold nC
   rw [show ((0:Nat):Int)=0 from rfl,ho]
   rfl
  have h2:(0:Int) ∈ eE h:=by
   unfold eE cz
   rw [hm]
   exact List.mem_map.2 ⟨0,List.mem_filter.2 ⟨by simp,h1⟩,rfl⟩
  rw [hf] at h2
  cases h2
theorem FW (hu:h.ap[a]? = some u) (hs:u.ai[b]? = some s):(cr h a b).au=h.au∧(cr h a b).ap=h.ap.set a { u with Tables:=eL { u with Out:=u.Out.set b (eo h.au s.aJ) } b,Out:=u.Out.set b (eo h.au s.aJ),ai:=u.ai.set b bu }:=by
 rw [← KG hu hs]
 refine ⟨rfl, ?_⟩
 show ((h.ap.set a _).set a _)=_
 rw [List.set_set]
 rfl
theorem R2 (hh:jE h) (ho:bN h 0=some (a,b)):bN (cr h a b) 0=none:=by
 obtain ⟨u,s,hu,hs,hp,_⟩:=nW ho
 rw [UI (Int.le_refl 0),(FW hu hs).2]
 refine FV fun y hy t ht he=> ?_
 obtain ⟨j,hj⟩:=List.getElem?_of_mem hy
 obtain ⟨k,hk⟩:=List.getElem?_of_mem ht
 rw [List.getElem?_set] at hj
 split at hj
 split at hj
 simp only [Option.some.injEq] at hj
 rw [← hj] at hk
 rw [show ∀ a b c,(aO.mk (u.ai.set b bu) a u.a_ u.aa u.bX u.ax u.bq c u.Own).ai=u.ai.set b bu from fun _ _ _=>rfl,List.getElem?_set] at hk
 split at hk
 split at hk
 simp only [Option.some.injEq] at hk
 rw [← hk] at he
 cases he
 cases hk
 exact absurd (Xo hh hu hs hk (by omega) (by omega)) (by assumption)
 cases hj
 exact absurd (Xn hh hu hj (YE hs (by omega)) (by rw [show s.aJ=t.aJ by omega];exact YE hk (by omega))) (by assumption)
theorem R3 (hm:h.au.length=12) (ho:bN h 0=none):∃ l,eE h=0 :: l:=by
 have h1:nC h 0=true:=by
  unfold nC
  rw [show ((0:Nat):Int)=0 from rfl,ho]
  rfl
 unfold eE cz
 rw [hm]
 exact ⟨_,by simp [List.range,List.range.loop,h1];rfl⟩
theorem UP (hh:nD h) (hu:h.ap[a]? = some u) (hs:u.ai[b]? = some s):nD (cr h a b):=by
 rw [← KG hu hs]
 have hm:bf (ud h u b s):=Jf hh.1 (hh.sm hu)
 have hn:Xm (ud h u b s):=by
  have:=hh.cE hu
  exact ⟨this.1,by show (u.Out.set _ _).length=8;rw [List.length_set];exact this.2.1,this.2.2.1,this.2.2.2⟩
 exact FT (D1 hh hm hn) hm hn
theorem Xp (hu:h.ap[a]? = some u) (hs:u.ai[b]? = some s) (hx:h.ap[m]? = some x) (hz:x.ai[p]? = some z) (h1:z.aJ= -1) (h2:¬ s.aJ= -1):
  ∃ y,(cr h a b).ap[m]? = some y∧y.ai[p]? = some z∧y.Out[p]? = x.Out[p]? :=by
 rw [(FW hu hs).2]
 by_cases hm:a=m
 subst hm
 rw [hu] at hx
 cases hx
 refine ⟨_,dz hu, ?_, ?_⟩
 rw [show ∀ a b c,(aO.mk (u.ai.set b bu) a u.a_ u.aa u.bX u.ax u.bq c u.Own).ai=u.ai.set b bu from fun _ _ _=>rfl,List.getElem?_set,if_neg (fun e=>by subst e;rw [hs] at hz;cases hz;exact h2 h1)]
 exact hz
 show (u.Out.set b _)[p]? = _
 rw [List.getElem?_set,if_neg (fun e=>by subst e;rw [hs] at hz;cases hz;exact h2 h1)]
 rw [List.getElem?_set,if_neg hm]
 exact ⟨x,hx,hz,rfl⟩
theorem AJ (hf:¬ eE h=[]):roomFor h=h:=by
 unfold roomFor
 split
 exact absurd (by assumption) hf
 rfl
theorem we (hf:eE h=[]) (ho:bN h 0=some (a,b)):roomFor h=cr h a b:=by
 unfold roomFor
 rw [hf,ho]
theorem Xq {t:Int} {l:List Int} (hm:h.au.length=12) (hf:eE h=t :: l):0 ≤ t∧t < 12:=by
 have h1:t ∈ eE h:=by rw [hf];exact List.mem_cons_self
 have h2:=O4 h1
 omega
structure Room (h:an) (m p:Nat) (x:aO) (z:aL) (t:Int) (l:List Int):Prop where
 hs:nD h
 hx:h.ap[m]? = some x
 hz:x.ai[p]? = some z
 hf:eE h=t :: l
 ht:0 ≤ t∧t < 12
theorem xl (hs:nD h) (ha:jE h) (hx:h.ap[m]? = some x) (hz:x.ai[p]? = some z) (h1:z.aJ= -1):∃ y t l,Room (roomFor h) m p y z t l∧y.Out[p]? = x.Out[p]? :=by
 by_cases hf:eE h=[]
 obtain ⟨a,b,ho⟩:=xk hs.2.1 hf
 obtain ⟨u,s,hu,hw,hp,_⟩:=nW ho
 rw [we hf ho]
 have hq:=UP hs hu hw
 obtain ⟨y,h2,h3,h4⟩:=Xp hu hw hx hz h1 (by omega)
 obtain ⟨l,hl⟩:=R3 hq.2.1 (R2 ha ho)
 exact ⟨y,0,l,⟨hq,h2,h3,hl,by omega⟩,h4⟩
 rw [AJ hf]
 cases hl:eE h with
 | nil=>exact absurd hl hf
 | cons t l=>exact ⟨x,t,l,⟨hs,hx,hz,hl,Xq hs.2.1 hl⟩,rfl⟩
end
section
variable {nL:Array TypeId} {m:Bool} {fn:Func} {f:FuncId} {g0:Gh} {K:Kn} {args:List Operand} {ts:List TS} {fk:List TV} {d n:Nat} {o:Oper} {cx:Operand} {P:Program} {rs:Rs} {st:St} {t:TS} {u:Value} {w0:World}
def roC:C→Bool
 | .ro _=>true
 | .own _=>false
 | .ref _=>false
 | .dead=>false
def Xr:List C→Bool
 | []=>true
 | c :: l=>roC c && Xr l
def roV:TV→Bool
 | .c x=>roC x
 | .agg cs=>Xr cs
 | .bV _=>true
 | _=>false
def Xs:List TV→Bool
 | []=>true
 | c :: l=>roV c && Xs l
def YF:TS→Bool
 | .one t=>roV t
 | .lp ts=>Xs ts
 | .fn _ _=>false
def Pd:List TS→Bool
 | []=>true
 | c :: l=>YF c && Pd l
def AK:Tag→Tag
 | .ro=> .ro
 | _=> .outer
theorem Nc {t:Tag}:AK t= .ro ↔ t= .ro:=by cases t <;> simp [AK]
theorem Nd (t:Tag):AK t= .ro ∨ AK t= .outer:=by cases t <;> simp [AK]
theorem Nf:∀ {l:List C},Xr l=true→∀ c ∈ l,roC c=true
 | c :: l,h,x,hx=>by
  have h:(roC c && Xr l)=true:=h
  rw [Bool.and_eq_true] at h
  rcases List.mem_cons.1 hx with rfl|hx
  exact h.1
  exact Nf h.2 x hx
theorem Ng:∀ {l:List TV},Xs l=true→∀ c ∈ l,roV c=true
 | c :: l,h,x,hx=>by
  have h:(roV c && Xs l)=true:=h
  rw [Bool.and_eq_true] at h
  rcases List.mem_cons.1 hx with rfl|hx
  exact h.1
  exact Ng h.2 x hx
theorem FX:∀ {l:List TS},Pd l=true→∀ c ∈ l,YF c=true
 | c :: l,h,x,hx=>by
  have h:(YF c && Pd l)=true:=h
  rw [Bool.and_eq_true] at h
  rcases List.mem_cons.1 hx with rfl|hx
  exact h.1
  exact FX h.2 x hx
section
variable {P:Program} {w0 w w':World} {g0 g g':Gh} {st:St} {a:Act}
theorem QM {c:C} (hm:∀ b,g.o b= .ro→g'.o b= .ro∧w'.heap[b]? = w.heap[b]?) (h:roC c=true) (hr:fO w g c u):fO w' g' c u:=by
 cases c with
 | ro d=>exact Ro.mono hm hr
 | _=>cases h
theorem QN {t:TV} (hm:∀ b,g.o b= .ro→g'.o b= .ro∧w'.heap[b]? = w.heap[b]?) (h:roV t=true) (hr:ef w g t u):ef w' g' t u:=by
 cases hr with
 | c c u hv=>exact .c c u (QM hm h hv)
 | agg cs us hs hv=>exact .agg cs us hs fun j c u h1 h2=>QM hm (Nf h c (List.mem_of_getElem? h1)) (hv j c u h1 h2)
 | bV ds b off us ho hcell=>exact .bV ds b off us (hm b ho).1 fun j d hj=>⟨by rw [iP (hm b ho).2];exact (hcell j d hj).1,(hcell j d hj).2.mono hm⟩
 | _=>cases h
theorem D2 (hm:∀ b,g.o b= .ro→g'.o b= .ro∧w'.heap[b]? = w.heap[b]?) (h:YF t=true) (hr:dy w g t u):dy w' g' t u:=by
 cases hr with
 | one t u h1=>exact .one t u (QN hm h h1)
 | lp ts us hs hv=>exact .lp ts us hs fun j t u h1 h2=>QN hm (Ng h t (List.mem_of_getElem? h1)) (hv j t u h1 h2)
 | fn f fk us hs hv=>cases h
end
def pg (P:Program) (f:FuncId) (pts:List TS) (t:TS):Prop:=
 ∀ (w:World) (g:Gh) (args:Array Value),(∀ b,b < w.heap.size→g.o b= .ro ∨ g.o b= .outer)→(∀ b,w.heap.size ≤ b→g.o b= .outer)→args.size=pts.length→
  (∀ (i:Nat) t u,pts[i]? = some t→args[i]? = some u→dy w g t u)→
  Calls P f args w fun e w'=>∃ v g',e= .returned v∧gw w w'∧(∀ b,g'.o b= .ro→(b < w.heap.size∧g.o b= .ro) ∨ (w.heap.size ≤ b∧b < w'.heap.size))∧dy w' g' t v
inductive Pe (st:St):TV→TV→Prop
 | c {x x':C} (h:Eo st x x'):Pe st (.c x) (.c x')
 | agg {l l':List C} (h:vi st l l'):Pe st (.agg l) (.agg l')
 | bV (ds:List D):Pe st (.bV ds) (.bV ds)
inductive FY (st:St):List TV→List TV→Prop
 | nil:FY st [] []
 | cons {t t':TV} {l l':List TV} (h:Pe st t t') (hl:FY st l l'):FY st (t :: l) (t' :: l')
theorem FY.get {ts ts':List TV} (h:FY st ts ts'):ts'.length=ts.length∧∀ (i:Nat) t',ts'[i]? = some t'→∃ t,ts[i]? = some t∧Pe st t t':=by
 induction h with
 | nil=>exact ⟨rfl,fun i t' hi=>by simp at hi⟩
 | cons h hs ih=>
  refine ⟨by simp [ih.1],fun i t' hi=> ?_⟩
  cases i with
  | zero=>
   simp only [List.getElem?_cons_zero,Option.some.injEq] at hi
   subst hi
   exact ⟨_,rfl,h⟩
  | succ i=>exact ih.2 i t' (by simpa using hi)
def UQ (P:Program) (fn:Func) (t:TS) (e:Exit) (st:St):Prop:=
 (e= .normal ∨ e= .ret)∧∃ (u_:List ResultVar) (cZ De:List TV),fn.results=u_.toArray∧u_.length ≤ 4∧u_.map (sN P st)=cZ.map some∧FY st cZ De∧t=nx De
section
variable {P:Program}
theorem pg.of {f:FuncId} {fn:Func} {c:Code} {pts:List TS} {t:TS} (hf:P.funcs[f]? = some fn) (hb:fn.body=some c) (hn:pts.length ≤ fn.ntmps)
  (h:∀ (w:World) (g0:Gh),TC P w g0 c ⟨pts ++ List.replicate (fn.ntmps - pts.length) (.one .dead),[]⟩ (UQ P fn t)):pg P f pts t:=by
 intro w g args hg mS hsz hargs
 refine calls_of_wp hf hb (wp_mono (h w g _ w g ⟨fun i tv hi=> ?_, ?_,rfl,⟨fun k r hk=> ?_,fun k r hk=> ?_⟩,⟨rfl,rfl,rfl,Nat.le_refl _,fun b hb _=>⟨rfl,rfl⟩,fun b hb=>mS b hb,fun b hb ho=>⟨hb,ho⟩,⟨fun _=>rfl,rfl⟩,fun b=> ?_⟩⟩) fun e a w' ⟨st,g',hE,hR⟩=> ?_)
 by_cases hlt:i < pts.length
 rw [List.getElem?_append_left hlt] at hi
 have hi':i < args.size:=by omega
 have h1:(args ++ Array.replicate (fn.ntmps - args.size) undef).getD i undef=args[i]:=by
  rw [Array.getD_eq_getD_getElem?,Array.getElem?_append_left hi',Array.getElem?_eq_getElem hi']
  rfl
 show dy w g tv ((args ++ Array.replicate (fn.ntmps - args.size) undef).getD i undef)
 rw [h1]
 exact hargs i tv _ hi (Array.getElem?_eq_getElem hi')
 rw [List.getElem?_append_right (by omega),List.getElem?_replicate] at hi
 split at hi
 simp only [Option.some.injEq] at hi
 subst hi
 exact .one _ _ (.dead _)
 cases hi
 show (args ++ Array.replicate (fn.ntmps - args.size) undef).size=_
 simp [hsz]
 simp [St.root] at hk
 simp [St.root] at hk
 rcases Nat.lt_or_ge b w.heap.size with h1|h1
 rcases hg b h1 with h2|h2 <;> rw [h2] <;> simp
 rw [mS b h1];simp
 obtain ⟨he,u_,cZ,De,h1,h2,h3,h4,h5⟩:=hE
 have hlen:u_.length=cZ.length:=by
  have:=congrArg List.length h3
  simpa using this
 obtain ⟨us,PY,PZ,xJ⟩:=hR.resultList h3
 have hrun:=oE (P:=P) h1 h2 a.tmps w' PY PZ
 have hL:gw w w':=⟨hR.ks.os,hR.ks.tape,hR.ks.output,hR.ks.size,fun b hb=>(hR.ks.block b hb (hg b hb)).1⟩
 let gf:Gh:={ g' with o:=fun b=>if b < w.heap.size then g.o b else if b < w'.heap.size then .ro else .outer }
 have hgf:∀ b,g'.o b= .ro→gf.o b= .ro∧w'.heap[b]? = w'.heap[b]? :=fun b hb=>by
  refine ⟨?_,rfl⟩
  show (if b < w.heap.size then g.o b else if b < w'.heap.size then Tag.ro else Tag.outer)= .ro
  rcases Nat.lt_or_ge b w.heap.size with h6|h6
  rw [if_pos h6, ← (hR.ks.block b h6 (hg b h6)).2];exact hb
  rw [if_neg (by omega)]
  rcases Nat.lt_or_ge b w'.heap.size with h7|h7
  rw [if_pos h7]
  rw [hR.ks.fresh b h7] at hb;cases hb
 have gk:∀ k b,(g'.o b).gu = some k→b < w'.heap.size→gf.o b= .ro:=fun k b hb h7=>by
  show (if b < w.heap.size then g.o b else if b < w'.heap.size then Tag.ro else Tag.outer)= .ro
  rcases Nat.lt_or_ge b w.heap.size with h6|h6
  rw [(hR.ks.block b h6 (hg b h6)).2] at hb
  rcases hg b h6 with h8|h8 <;> rw [h8] at hb <;> cases hb
  rw [if_neg (by omega),if_pos h7]
 have hC:∀ c c' u,Eo st c c'→fO w' g' c u→fO w' gf c' u:=fun c c' u hs hv=>by
  cases hs with
  | ro d=>exact Ro.mono hgf hv
  | ref h hw=>
   have h8:u=_:=hv.1
   rw [h8]
   exact ((hR.cellAt h).1 _ rfl).Y7 hw fun b hb hlt=>gk _ b hb hlt
 have hV:∀ t t' u,Pe st t t'→ef w' g' t u→ef w' gf t' u:=fun t t' u hs hv=>by
  cases hs with
  | c h=>cases hv with|c _ _ hv=>exact .c _ _ (hC _ _ _ h hv)
  | @agg l0 l1 h=>
   cases hv with
   | agg _ us hsz hv=>
    obtain ⟨h6,h7⟩:=h.get
    refine .agg _ us (by rw [h6];exact hsz) fun j c' u hj hu=> ?_
    have hj':j < l0.length:=by rw [← h6];exact (List.getElem?_eq_some_iff.1 hj).1
    exact hC _ _ _ (h7 j _ c' (List.getElem?_eq_getElem hj') hj) (hv j _ u (List.getElem?_eq_getElem hj') hu)
  | bV ds=>cases hv with|bV _ b off us ho hcell=>exact .bV ds b off us (hgf b ho).1 fun j d hj=>⟨(hcell j d hj).1,(hcell j d hj).2.mono hgf⟩
 have h6:=h4.get
 have YG:∀ (i:Nat) t u,De[i]? = some t→us[i]? = some u→ef w' gf t u:=fun i t u hi hu=>by
  obtain ⟨t0,h7,h8⟩:=h6.2 i t hi
  exact hV _ _ _ h8 (xJ i t0 u h7 hu)
 have ho:∀ b,gf.o b= .ro→(b < w.heap.size∧g.o b= .ro) ∨ (w.heap.size ≤ b∧b < w'.heap.size):=fun b hb=>by
  have hb:(if b < w.heap.size then g.o b else if b < w'.heap.size then Tag.ro else Tag.outer)= .ro:=hb
  rcases Nat.lt_or_ge b w.heap.size with h6|h6
  rw [if_pos h6] at hb
  exact .inl ⟨h6,hb⟩
  rw [if_neg (by omega)] at hb
  rcases Nat.lt_or_ge b w'.heap.size with h7|h7
  exact .inr ⟨h6,h7⟩
  rw [if_neg (by omega)] at hb;cases hb
 have hval:dy w' gf (nx De) (CW us):=by
  have JI:∀ l:List Value,l.length=De.length→(∀ (i:Nat) t u,De[i]? = some t→l[i]? = some u→ef w' gf t u)→dy w' gf (.lp De) (.tuple l.toArray):=fun l hl hh=>
   .lp _ _ (by simp [hl]) fun j t u hj hu=>hh j t u hj (by simpa using hu)
  have hl:=JI us (by rw [h6.1];omega) YG
  have Wk:us.length=De.length:=by rw [h6.1];omega
  clear hrun PZ h3 h4 h5 h6 xJ
  match us,De,Wk with
  | [],[],_=>exact hl
  | [t],[tv],_=>exact .one _ _ (YG 0 tv _ rfl rfl)
  | _ :: _ :: _,_ :: _ :: _,_=>exact hl
 have vg:∃ v,(results fn a.tmps).run P w'= .ok v w'∧∃ v_1 g',Ending.returned v=Ending.returned v_1∧gw w w'∧(∀ b,g'.o b= .ro→(b < w.heap.size∧g.o b= .ro) ∨ (w.heap.size ≤ b∧b < w'.heap.size))∧dy w' g' t v_1:=
  ⟨_,hrun,_,gf,rfl,hL,ho,by rw [h5];exact hval⟩
 rcases he with rfl|rfl
 exact ⟨hR.df,vg⟩
 exact ⟨hR.df,vg⟩
variable {w0:World} {g0:Gh} {st:St}
theorem rq.QO {Q:St→Prop} (ho:o.op= .call { callee:= .value cx,args:=args.toArray,argTypes:=nL }) (lA:T.cy 0 st cx=some (.fn f [])) 
  (hf : P.funcs[f]? = some fn) (hb : fn.body.isNone = false) (hn : (fn.name == "runtime.NumGoroutine") = false) {ts : List TS} (hx : jI st args = some ts) {t : TS} (hc : pg P f ts t) (hro : Pd ts = true) (hrt : YF t = true)
  (hq:Q (st.put o.dst t)):rq P w0 g0 o st Q:=fun a w g hR K' JQ=>by
 have h1:=hR.jI hx
 let gc:Gh:={ g with o:=fun b=>AK (g.o b) }
 have Oh:∀ b,gc.o b= .ro ↔ g.o b= .ro:=fun b=>Nc
 have jo:=hc w gc (args.map a.eval).toArray (fun b hb=>Nd _) (fun b hb=>by
  show AK (g.o b)= .outer
  rw [hR.ks.fresh b hb];rfl) (by simp [h1.1]) (fun i t u hi hu=>D2 (fun b hb=>⟨(Oh b).2 hb,rfl⟩) (FX hro t (List.mem_of_getElem? hi)) (h1.2 i t u hi (by simpa using hu)))
 rw [kk hR ho lA hf hb hn w]
 refine ⟨gw.refl w,jo.mono fun e w' ⟨v,g',he,hL,hg',hv⟩=>⟨v,he,hL,JQ _ _ _ _ hq ((hR.later hL).put (D2 (fun b hb=>⟨?_,rfl⟩) hrt hv) o.dst)⟩⟩
 show (if b < w.heap.size then g.o b else if b < w'.heap.size then Tag.ro else Tag.outer)= .ro
 rcases hg' b hb with ⟨h2,h3⟩|⟨h2,h3⟩
 rw [if_pos h2];exact (Oh b).1 h3
 rw [if_neg (by omega),if_pos h3]
theorem rq.KX {Q:St→Prop} (ho:o.op= .call { callee:= .value cx,args:=args.toArray,argTypes:=nL }) (lA:T.cy 0 st cx=some (.fn f fk)) 
  (hf : P.funcs[f]? = some fn) (hb : fn.body.isNone = false) (hn : (fn.name == "runtime.NumGoroutine") = false) {ts : List TS} (hx : jI st args = some ts) {t : TS} (hc : pg P f (ts ++ fk.map TS.one) t) (hro : Pd (ts ++ fk.map TS.one) = true) (hrt : YF t = true)
  (hq:Q (st.put o.dst t)):rq P w0 g0 o st Q:=fun a w g hR K' JQ=>by
 obtain ⟨us,he,h1,Ie⟩:=hR.P_ lA hx
 let gc:Gh:={ g with o:=fun b=>AK (g.o b) }
 have Oh:∀ b,gc.o b= .ro ↔ g.o b= .ro:=fun b=>Nc
 have jo:=hc w gc ((args.map a.eval).toArray ++ us) (fun b hb=>Nd _) (fun b hb=>by
  show AK (g.o b)= .outer
  rw [hR.ks.fresh b hb];rfl) (by rw [h1]) (fun i t u hi hu=>D2 (fun b hb=>⟨(Oh b).2 hb,rfl⟩) (FX hro t (List.mem_of_getElem? hi)) (Ie i t u hi hu))
 rw [tL he ho hf hb hn w]
 refine ⟨gw.refl w,jo.mono fun e w' ⟨v,g',he,hL,hg',hv⟩=>⟨v,he,hL,JQ _ _ _ _ hq ((hR.later hL).put (D2 (fun b hb=>⟨?_,rfl⟩) hrt hv) o.dst)⟩⟩
 show (if b < w.heap.size then g.o b else if b < w'.heap.size then Tag.ro else Tag.outer)= .ro
 rcases hg' b hb with ⟨h2,h3⟩|⟨h2,h3⟩
 rw [if_pos h2];exact (Oh b).1 h3
 rw [if_neg (by omega),if_pos h3]
end
def frzW (rs:Rs) (t:TV) (k:TV→Prop):Prop:=match t with
 | .c c=>ET rs c fun c=>k (.c c)
 | .agg cs=>DQ rs cs fun cs=>k (.agg cs)
 | .bV ds=>k (.bV ds)
 | _=>False
def UR (rs:Rs):List TV→(List TV→Prop)→Prop
 | [],k=>k []
 | t :: l,k=>frzW rs t fun t=>UR rs l fun l=>k (t :: l)
theorem Xt {e:List En} {t:TV} {k:TV→Prop} (h:frzW rs t k):∃ t',Pe (aR n e rs) t t'∧k t':=by
 unfold frzW at h
 split at h
 obtain ⟨c',h1,h2⟩:=Bz (n:=n) (e:=e) h
 exact ⟨_, .c h1,h2⟩
 obtain ⟨c',h1,h2⟩:=yK (n:=n) (e:=e) h
 exact ⟨_, .agg h1,h2⟩
 exact ⟨_, .bV _,h⟩
 exact h.elim
theorem Nh {n:Nat} {e:List En} {rs:Rs}:∀ {l:List TV} {k:List TV→Prop},UR rs l k→∃ l',FY (aR n e rs) l l'∧k l'
 | [],k,h=>⟨[], .nil,h⟩
 | t :: l,k,h=>by
  obtain ⟨t',h1,h2⟩:=Xt (n:=n) (e:=e) h
  obtain ⟨l',h3,h4⟩:=Nh (l:=l) h2
  exact ⟨_, .cons h1 h3,h4⟩
def US (P:Program) (n:Nat) (rv:List ResultVar) (t:TS) (e:List En) (rs:Rs):Prop:=IT P n e rs rv fun cZ=>BR (Nat.ble rv.length 4) (UR rs cZ fun cZ=>t=nx cZ) False
def endA (P:Program) (n:Nat) (rv:List ResultVar) (t:TS):Kx:=fun ex e rs=>match ex with
 | .normal=>US P n rv t e rs
 | .ret=>US P n rv t e rs
 | _=>False
theorem Xu {ex:Exit} (h:Lf n (endA P n fn.results.toList t) ex st):UQ P fn t ex st:=by
 obtain ⟨e,rs,rfl,h⟩:=h
 have key:US P n fn.results.toList t e rs→∀ ex,(ex= .normal ∨ ex= .ret)→UQ P fn t ex (aR n e rs):=fun h ex hex=>by
  obtain ⟨cZ,h1,h2⟩:=vt h
  obtain ⟨h3,h4⟩:=bG h2
  obtain ⟨De,h5,h6⟩:=Nh (n:=n) (e:=e) h4
  exact ⟨hex,fn.results.toList,cZ,De,rfl,Nat.le_of_ble_eq_true h3,h1,h5,h6⟩
 unfold endA at h
 split at h
 exact key h _ (.inl rfl)
 exact key h _ (.inr rfl)
 exact h.elim
theorem pg.w {c:Code} {pts:List TS} (n:Nat) (hf:P.funcs[f]? = some fn) (h:∀ w g0,iI pts→qF 0 pts fun e=>wC P w g0 n c e [] (endA P n fn.results.toList t)) 
  (hb:fn.body=some c:=by exact rfl) (hn:fn.ntmps=n:=by exact rfl) (eK:Nat.ble pts.length n=true:=by exact rfl):pg P f pts t:=by
 have hl:=Nat.le_of_ble_eq_true eK
 subst hn
 refine pg.of hf hb hl fun w g0=>TC.iI fun hM=> ?_
 obtain ⟨e,h1,h2⟩:=iR (m:=0) (h w g0 hM)
 rw [kW hl h1]
 exact (mJ h2).mono fun ex st hl=>Xu hl
theorem QO {e:List En} (hc:pg P f ts t) (hk:mw t fun t=>K (.set d t :: e) rs) 
  (hro:Pd ts=true:=by exact rfl) (hrt:YF t=true:=by exact rfl) (hf:dK P f:=by exact .mk rfl rfl rfl):uG m P w0 g0 n e rs f ts (some d) K:=⟨fun o cx args nL ho lA hd hx=>by
 obtain ⟨fn,h1,h2,h3⟩:=hf
 refine .of (rq.QO ho lA h1 h2 h3 hx hc hro hrt ?_)
 rw [hd]
 exact .put (fZ.1 hk)⟩
theorem KX {e:List En} (hc:pg P f (ts ++ fk.map TS.one) t) (hk:mw t fun t=>K (.set d t :: e) rs) 
  (hro:Pd (ts ++ fk.map TS.one)=true:=by exact rfl) (hrt:YF t=true:=by exact rfl) (hf:dK P f:=by exact .mk rfl rfl rfl):MA m P w0 g0 n e rs f ts fk (some d) K:=⟨fun o cx args nL ho lA hd hx=>by
 obtain ⟨fn,h1,h2,h3⟩:=hf
 refine .of (rq.KX ho lA h1 h2 h3 hx hc hro hrt ?_)
 rw [hd]
 exact .put (fZ.1 hk)⟩
end
end Go.Proofs.YtdliggkohdnipaaGreat.T
