import Derived.Test.YtdliggkohdnipaaGreatT3r
set_option linter.unusedVariables false
set_option linter.unusedSimpArgs false
namespace Go.Proofs.YtdliggkohdnipaaGreat.T
open Go
section
variable {a:Act} {ops:Array Oper} {l:List (Nat×Nat)} {bs ks s ws:List Nat} {tl:List Oper} {i k:Nat} {o:Oper} {bD:St} {t:TypeId} {u v:Value} {w w':World}
def Pinned (s:List Nat) (a:Act) (w w':World):Prop:=w.heap.size ≤ w'.heap.size∧∀ x ∈ s,∀ A,a.tmps.getD x undef= .pointer (some A)→A.block < w.heap.size→w'.heap[A.block]? = w.heap[A.block]?
theorem Pinned.refl (s:List Nat) (a:Act) (w:World):Pinned s a w w:=⟨Nat.le_refl _,fun _ _ _ _ _=>rfl⟩
theorem Pinned.trans {a':Act} {w'':World} (h:Pinned s a w w') (ha:∀ x ∈ s,a'.tmps.getD x undef=a.tmps.getD x undef) (h':Pinned s a' w' w''):Pinned s a w w'':=
 ⟨Nat.le_trans h.1 h'.1,fun x hx A hA hlt=>by rw [h'.2 x hx A (by rw [ha x hx];exact hA) (Nat.lt_of_lt_of_le hlt h.1),h.2 x hx A hA hlt]⟩
theorem gw.pinned (h:gw w w'):Pinned s a w w':=⟨h.2.2.2.1,fun _ _ A _ hlt=>h.2.2.2.2 _ hlt⟩
theorem Eu {d:Option Nat} {s:Nat} (h:d ≠ some s):(a.put d v).tmps.getD s undef=a.tmps.getD s undef:=by
 cases d with
 | none=>rfl
 | some d=>
  have hne:d ≠ s:=fun e=>h (by rw [e])
  simp only [Act.put,Array.getD_eq_getD_getElem?]
  rw [Array.getElem?_setIfInBounds_ne hne]
def JR (P:Program) (s:List Nat) (o:Oper) (a:Act) (w:World) (next:Act→World→Prop):Result Next→Prop
 | .ok (.value v) w'=>Pinned s a w w'∧next (a.put o.dst v) w'
 | .ok .skip w'=>Pinned s a w w'∧next (a.put o.dst undef) w'
 | _=>False
def Sw (P:Program) (ops:Array Oper) (s:List Nat) (i:Nat) (K:Act→World→Prop) (a:Act) (w:World):Prop:=
 match ops[i]? with
 | none=>K a w
 | some o=>if Region.wanted o (yielded ops a.tmps) then JR P s o a w K ((execOp a.eval o).run P w) else K (a.put o.dst undef) w
def nM (P:Program) (md:Region.Mode) (ops:Array Oper) (Q:Exit→Act→World→Prop) (ws bs s:List Nat):Nat→Array Bool→Act→World→Prop
 | 0,listed,a,w=>Region.ready md ops listed=[]∧Q .normal a w
 | fuel + 1,listed,a,w=>(Region.ready md ops listed=[]→Q .normal a w)∧∀ i ∈ Region.ready md ops listed,
   if ws.contains i=true then (if bs.contains i=true then Sw P ops s i (nM P md ops Q ws bs s fuel (listed.setIfInBounds i true)) a w else wpOp P ops Q i (nM P md ops Q ws bs s fuel (listed.setIfInBounds i true)) a w)
   else Ep P ops i (nM P md ops Q ws bs s fuel (listed.setIfInBounds i true)) a w
def YS (P:Program) (ops:Array Oper) (s:List Nat) (o:Oper) (v:Value) (a:Act) (w:World):Prop:=
 (Region.wanted o (yielded ops a.tmps)=true∧∀ w',Pinned s a w w'→(execOp a.eval o).run P w'= .ok (.value v) w') ∨ (Region.wanted o (yielded ops a.tmps)=false∧v=undef)
section
variable {P:Program} {ops:Array Oper} {md:Region.Mode} {Q:Exit→Act→World→Prop} {ws bs s:List Nat}
theorem Zl {K K':Act→World→Prop} (h:∀ a w,K a w→K' a w) (hh:Sw P ops s i K a w):wpOp P ops Q i K' a w:=by
 unfold Sw at hh
 unfold wpOp
 split
 ·rename_i ho;simp only [ho] at hh;exact h _ _ hh
 ·rename_i o ho
  simp only [ho] at hh
  split
  ·rename_i hw
   simp only [hw,if_true] at hh
   refine .inl ?_
   unfold Oper.wp
   generalize (execOp a.eval o).run P w=r at *
   cases r with
   | ok n w'=>
    cases n <;> simp only [JR] at hh <;> simp only [Oper.upon]
    case value v=>exact h _ _ hh.2
    case skip=>exact h _ _ hh.2
   | halt x w'=>exact hh.elim
  ·rename_i hw;simp only [hw] at hh;exact h _ _ hh
theorem Tg {K K':Act→World→Prop} (h:∀ a w,K a w→K' a w) (hh:Sw P ops s i K a w):Sw P ops s i K' a w:=by
 unfold Sw at *
 split
 ·exact h _ _ (by simpa [*] using hh)
 ·rename_i o ho
  simp only [ho] at hh
  split
  ·rename_i hw
   simp only [hw,if_true] at hh
   generalize (execOp a.eval o).run P w=r at *
   cases r with
   | ok n w'=>
    cases n <;> simp only [JR] at hh ⊢
    case value v=>exact ⟨hh.1,h _ _ hh.2⟩
    case skip=>exact ⟨hh.1,h _ _ hh.2⟩
   | halt x w'=>exact hh.elim
  ·rename_i hw;simp only [hw] at hh;exact h _ _ hh
theorem qw:∀ (fuel:Nat) (listed:Array Bool) (a:Act) (w:World),nM P md ops Q ws bs s fuel listed a w→wpAny P md ops Q fuel listed a w
 | 0,_,_,_,h=>h
 | fuel + 1,_,_,_,h=>⟨h.1,fun i hi=>by
  have h1:=h.2 i hi
  split at h1
  split at h1
  exact Zl (fun a' w'=>qw fuel _ a' w') h1
  exact Ol (fun a' w'=>qw fuel _ a' w') h1
  exact Zc (fun a' w'=>qw fuel _ a' w') h1⟩
theorem sU {l:Array Bool} (h0:l.getD k true=false) (h1:l.getD k false=true):False:=by
 rcases Nat.lt_or_ge k l.size with h'|h'
 simp [h'] at h0 h1;rw [h0] at h1;cases h1
 simp [Array.getElem?_eq_none h'] at h1
theorem zR {i:Nat} {oi:Oper} {v:Value} (hi:ops[i]? = some oi) (hsel:∀ (j:Nat) (o:Oper) cs b,ops[j]? = some o→o.op ≠ .select cs b) (hne:ws.contains i=false) {n:Nat}:
  ∀ (fuel:Nat) (listed:Array Bool) (a:Act) (w:World),tI md ops listed→(∀ k ∈ ws,listed.getD k false=true ∨ reaches md ops n k i=true)→
   (∀ j oj,ops[j]? = some oj→j ≠ i→listed.getD j true=false→(∀ e ∈ oj.after,Region.binds md e=true→e.on ≠ i)→oi.apart ops oj=true)→
   i ∈ Region.ready md ops listed→YV P ops oi v a w→
   nM P md ops Q ws bs s fuel (listed.setIfInBounds i true) (a.put oi.dst v) w→nM P md ops Q ws bs s (fuel + 1) listed a w:=by
 intro fuel
 induction fuel with
 | zero=>
  intro listed a w _ _ _ hr hy H
  refine ⟨fun h=>(by rw [h] at hr;cases hr),fun j hj=> ?_⟩
  by_cases hji:j=i
  subst hji;rw [if_neg (by rw [hne];decide)];exact hy.Ep hi H
  have:=ready_mono hj hji
  rw [H.1] at this
  cases this
 | succ fuel ih=>
  intro listed a w P0 hre hfree hr hy H
  refine ⟨fun h=>(by rw [h] at hr;cases hr),fun j hj=> ?_⟩
  by_cases hji:j=i
  subst hji;rw [if_neg (by rw [hne];decide)];exact hy.Ep hi H
  obtain ⟨Me,oj,Sx,hall⟩:=mem_ready.1 hj
  have h0:=(mem_ready.1 hr).1
  have hjw:ws.contains j=false:=by
   rw [Bool.eq_false_iff]
   intro e
   have hjm:j ∈ ws:=by simpa using e
   rcases hre j hjm with h1|h1
   exact sU Me h1
   exact sU h0 (qo P0 n j (fun o ho e he hb=>by rw [Sx] at ho;cases ho;exact hall e he hb) h1)
  rw [if_neg (by rw [hjw];decide)]
  have h1:=H.2 j (ready_mono hj hji)
  rw [if_neg (by rw [hjw];decide)] at h1
  have hnot:∀ e ∈ oj.after,Region.binds md e=true→e.on ≠ i:=fun e he hb heq=>by
   have h1:=hall e he hb
   rw [heq] at h1
   exact sU h0 h1
  have h2:=Wt Sx (hfree j oj Sx hji Me hnot) (fun cs b=>hsel i oi cs b hi) (fun cs b=>hsel j oj cs b Sx) hy h1
  have Zm:∀ k ok,ops[k]? = some ok→k ≠ i→(listed.setIfInBounds j true).getD k true=false→
    (∀ e ∈ ok.after,Region.binds md e=true→e.on ≠ i)→oi.apart ops ok=true:=fun k ok hk hki hun hno=>by
   refine hfree k ok hk hki ?_ hno
   by_cases Em:j=k
   subst Em;exact Me
   rw [getD_set_ne true Em] at hun;exact hun
  refine L7 (fun a' w' h3=>ih (listed.setIfInBounds j true) a' w' (P0.set hj) (fun k hk=>(hre k hk).imp (fun h=>getD_set_true h) id) Zm (ready_mono hr (Ne.symm hji)) h3.1 ?_) h2
  rw [Array.setIfInBounds_comm _ _ hji]
  exact h3.2
theorem YS.run (hi:ops[i]? = some o) (hy:YS P ops s o v a w) {K:Act→World→Prop} (h:K (a.put o.dst v) w):Ep P ops i K a w:=by
 unfold T.Ep
 simp only [hi]
 rcases hy with ⟨hw,hv⟩|⟨hw,rfl⟩
 simp only [hw,if_true,hv w (Pinned.refl s a w)]
 exact ⟨gw.refl w,h⟩
 simp only [hw,Bool.false_eq_true,if_false];exact h
theorem P7 {oi oj:Oper} (hap:oi.apart ops oj=true) (hsi:∀ cs b,oi.op ≠ .select cs b) (V_:∀ x ∈ s,oj.dst ≠ some x) (hy:YS P ops s oi v a w) (u:Value) (w':World) (CX:Pinned s a w w'):YS P ops s oi v (a.put oj.dst u) w':=by
 obtain ⟨h1,h2,h3⟩:=Oper.apart_spec hap
 unfold YS at *
 rw [execOp_put oi hsi a oj.dst u h3,wanted_put oi a oj.dst u h3]
 exact hy.imp (fun h=>⟨h.1,fun w'' hw''=>h.2 w'' (CX.trans (fun x hx=>Eu (V_ x hx)) hw'')⟩) id
theorem Th {j:Nat} {oi oj:Oper} {v:Value} (hj:ops[j]? = some oj) (hap:oi.apart ops oj=true) (hsi:∀ cs b,oi.op ≠ .select cs b) (hsj:∀ cs b,oj.op ≠ .select cs b) (V_:∀ x ∈ s,oj.dst ≠ some x)
  {K:Act→World→Prop} {a:Act} {w:World} (hy:YS P ops s oi v a w) (h:Ep P ops j K (a.put oi.dst v) w):Ep P ops j (fun a' w'=>YS P ops s oi v a' w'∧K (a'.put oi.dst v) w') a w:=by
 obtain ⟨h1,h2,h3⟩:=Oper.apart_spec hap
 have keep:∀ u w',gw w w'→YS P ops s oi v (a.put oj.dst u) w':=fun u w' CX=>P7 hap hsi V_ hy u w' CX.pinned
 unfold Ep at *
 simp only [hj] at *
 rw [wanted_put oj a oi.dst v h1] at h
 split
 ·rename_i hw
  simp only [hw,if_true] at h
  rw [execOp_put oj hsj a oi.dst v h1] at h
  generalize (execOp a.eval oj).run P w=r at *
  cases r with
  | ok n w'=>
   cases n <;> simp only [Cn] at h ⊢
   case value u=>exact ⟨h.1,keep u _ h.1,by rw [← Act.put_comm a v u h2];exact h.2⟩
   case skip=>exact ⟨h.1,keep _ _ h.1,by rw [← Act.put_comm a v undef h2];exact h.2⟩
   case enter f args=>exact ⟨h.1,h.2.mono fun e w'' ⟨u,e1,e2,e3⟩=>⟨u,e1,e2,keep u _ e2,by rw [← Act.put_comm a v u h2];exact e3⟩⟩
  | halt x w'=>exact h.elim
 ·rename_i hw
  simp only [hw] at h
  exact ⟨keep _ _ (gw.refl w),by rw [← Act.put_comm a v undef h2];exact h⟩
theorem Ti {j:Nat} {oi oj:Oper} {v:Value} (hj:ops[j]? = some oj) (hap:oi.apart ops oj=true) (hsi:∀ cs b,oi.op ≠ .select cs b) (hsj:∀ cs b,oj.op ≠ .select cs b) (V_:∀ x ∈ s,oj.dst ≠ some x) (hdi:∀ x ∈ s,oi.dst ≠ some x)
  {K:Act→World→Prop} {a:Act} {w:World} (hy:YS P ops s oi v a w) (h:Sw P ops s j K (a.put oi.dst v) w):Sw P ops s j (fun a' w'=>YS P ops s oi v a' w'∧K (a'.put oi.dst v) w') a w:=by
 obtain ⟨h1,h2,h3⟩:=Oper.apart_spec hap
 unfold Sw at *
 simp only [hj] at *
 rw [wanted_put oj a oi.dst v h1] at h
 split
 ·rename_i hw
  simp only [hw,if_true] at h
  rw [execOp_put oj hsj a oi.dst v h1] at h
  generalize (execOp a.eval oj).run P w=r at *
  cases r with
  | ok n w'=>
   cases n <;> simp only [JR] at h ⊢
   case value u=>
    have hp:Pinned s a w w':=⟨h.1.1,fun x hx A hA hlt=>h.1.2 x hx A (by rw [Eu (hdi x hx)];exact hA) hlt⟩
    exact ⟨hp,P7 hap hsi V_ hy u _ hp,by rw [← Act.put_comm a v u h2];exact h.2⟩
   case skip=>
    have hp:Pinned s a w w':=⟨h.1.1,fun x hx A hA hlt=>h.1.2 x hx A (by rw [Eu (hdi x hx)];exact hA) hlt⟩
    exact ⟨hp,P7 hap hsi V_ hy undef _ hp,by rw [← Act.put_comm a v undef h2];exact h.2⟩
  | halt x w'=>exact h.elim
 ·rename_i hw
  simp only [hw] at h
  exact ⟨P7 hap hsi V_ hy _ _ (Pinned.refl s a w),by rw [← Act.put_comm a v undef h2];exact h⟩
theorem Hh {i:Nat} {oi:Oper} {v:Value} (hi:ops[i]? = some oi) (hsel:∀ (j:Nat) (o:Oper) cs b,ops[j]? = some o→o.op ≠ .select cs b) (hne:ws.contains i=false) (hdi:∀ x ∈ s,oi.dst ≠ some x) {n:Nat}:
  ∀ (fuel:Nat) (listed:Array Bool) (a:Act) (w:World),tI md ops listed→(∀ k ∈ ws,bs.contains k=true ∨ listed.getD k false=true ∨ reaches md ops n k i=true)→
   (∀ j oj,ops[j]? = some oj→j ≠ i→listed.getD j true=false→(∀ e ∈ oj.after,Region.binds md e=true→e.on ≠ i)→oi.apart ops oj=true)→
   (∀ j oj,ops[j]? = some oj→j ≠ i→listed.getD j true=false→∀ x ∈ s,oj.dst ≠ some x)→
   i ∈ Region.ready md ops listed→YS P ops s oi v a w→
   nM P md ops Q ws bs s fuel (listed.setIfInBounds i true) (a.put oi.dst v) w→nM P md ops Q ws bs s (fuel + 1) listed a w:=by
 intro fuel
 induction fuel with
 | zero=>
  intro listed a w _ _ _ _ hr hy H
  refine ⟨fun h=>(by rw [h] at hr;cases hr),fun j hj=> ?_⟩
  by_cases hji:j=i
  subst hji;rw [if_neg (by rw [hne];decide)];exact hy.run hi H
  have:=ready_mono hj hji
  rw [H.1] at this
  cases this
 | succ fuel ih=>
  intro listed a w P0 hre hfree hds hr hy H
  refine ⟨fun h=>(by rw [h] at hr;cases hr),fun j hj=> ?_⟩
  by_cases hji:j=i
  subst hji;rw [if_neg (by rw [hne];decide)];exact hy.run hi H
  obtain ⟨Me,oj,Sx,hall⟩:=mem_ready.1 hj
  have h0:=(mem_ready.1 hr).1
  have h1:=H.2 j (ready_mono hj hji)
  have hnot:∀ e ∈ oj.after,Region.binds md e=true→e.on ≠ i:=fun e he hb heq=>by
   have h1:=hall e he hb
   rw [heq] at h1
   exact sU h0 h1
  have hap:=hfree j oj Sx hji Me hnot
  have V_:=hds j oj Sx hji Me
  have hun':∀ {k:Nat},(listed.setIfInBounds j true).getD k true=false→listed.getD k true=false:=fun {k} hun=>by
   by_cases Em:j=k
   subst Em;exact Me
   rw [getD_set_ne true Em] at hun;exact hun
  have go:∀ a' w',YS P ops s oi v a' w'∧nM P md ops Q ws bs s fuel ((listed.setIfInBounds i true).setIfInBounds j true) (a'.put oi.dst v) w'→nM P md ops Q ws bs s (fuel + 1) (listed.setIfInBounds j true) a' w':=fun a' w' h3=>by
   refine ih (listed.setIfInBounds j true) a' w' (P0.set hj) (fun k hk=>(hre k hk).imp id (Or.imp (fun h=>getD_set_true h) id)) (fun k ok hk hki hun hno=>hfree k ok hk hki (hun' hun) hno) (fun k ok hk hki hun=>hds k ok hk hki (hun' hun)) (ready_mono hr (Ne.symm hji)) h3.1 ?_
   rw [Array.setIfInBounds_comm _ _ hji]
   exact h3.2
  by_cases hjw:ws.contains j=true
  rw [if_pos hjw] at h1 ⊢
  have hjb:bs.contains j=true:=by
   have hjm:j ∈ ws:=by simpa using hjw
   rcases hre j hjm with h2|h2|h2
   exact h2
   exact (sU Me h2).elim
   exact (sU h0 (qo P0 n j (fun o ho e he hb=>by rw [Sx] at ho;cases ho;exact hall e he hb) h2)).elim
  rw [if_pos hjb] at h1 ⊢
  exact Tg go (Ti Sx hap (fun cs b=>hsel i oi cs b hi) (fun cs b=>hsel j oj cs b Sx) V_ hdi hy h1)
  rw [if_neg hjw] at h1 ⊢
  exact L7 go (Th Sx hap (fun cs b=>hsel i oi cs b hi) (fun cs b=>hsel j oj cs b Sx) V_ hy h1)
end
def vm (ops:Array Oper) (ws bs s:List Nat):List (Nat×Nat)→Array Bool→Bool
 | [],listed=>(Region.ready .any ops listed).isEmpty
 | (i,b) :: l,listed=>(match b with
   | 1=>Region.ready .any ops listed == [i]
   | 0=>(Region.ready .any ops listed).contains i && Region.free .any ops listed i && !ws.contains i && ws.all (fun k=>listed.getD k false || reaches .any ops ops.size k i)
   | _=>(Region.ready .any ops listed).contains i && Region.free .any ops listed i && !ws.contains i && ws.all (fun k=>bs.contains k || (listed.getD k false || reaches .any ops ops.size k i)) &&
     (List.range ops.size).all (fun j=>j == i && s.all (fun x=>((ops[j]?).bind (·.dst)) != some x) || j != i && (listed.getD j true || s.all fun x=>((ops[j]?).bind (·.dst)) != some x)))
   && vm ops ws bs s l (listed.setIfInBounds i true)
def JS (ops:Array Oper) (ws bs s:List Nat) (l:List (Nat×Nat)):Bool:=Region.noSelect ops && l.length == ops.size && vm ops ws bs s l (Array.replicate ops.size false)
section
variable {P:Program} {w0:World} {g0:Gh} {st:St}
def TU (P:Program) (w0:World) (g0:Gh) (ops:Array Oper) (ws bs s:List Nat) (l:List (Nat×Nat)) (st:St) (Q:St→Prop):Prop:=
 ∀ listed,Region.noSelect ops=true→tI .any ops listed→vm ops ws bs s l listed=true→∀ a w g,Rel w0 g0 st a w g→∀ (Q':Exit→Act→World→Prop),(∀ bD a' w' g',Q bD→Rel w0 g0 bD a' w' g'→Q' .normal a' w')→
  nM P .any ops Q' ws bs s l.length listed a w
theorem TC.WE {Q:Exit→St→Prop} (ws bs s:List Nat) (l:List (Nat×Nat)) (hm:P.follows .mixedOrders=true) (hB:JS ops ws bs s l=true) (h:TU P w0 g0 ops ws bs s l st (fun bD=>Q .normal bD)):
  TC P w0 g0 (.region i ops true) st Q:=fun a w g hR=>by
 simp only [JS,Bool.and_eq_true,beq_iff_eq] at hB
 obtain ⟨⟨h1,h2⟩,h3⟩:=hB
 have hU:Rel w0 g0 st a { w with drawn:=w.drawn + 1 } g:=hR.drew
 refine wp_region_any hm (qw (ws:=ws) (bs:=bs) (s:=s) _ _ _ _ ?_)
 rw [← h2] at h3 ⊢
 refine h _ h1 (fun j o ho hj=> ?_) (by rw [h2] at h3 ⊢;exact h3) a _ g hU _ fun bD a' w' g' hq hr=>⟨bD,g',hq,hr⟩
 simp [Array.getElem?_replicate] at hj
 split at hj <;> simp at hj
theorem TU.nil {Q:St→Prop} (h:Q st):TU P w0 g0 ops ws bs s [] st Q:=fun listed hs hc he a w g hR Q' hQ=>
 ⟨by simpa [vm,List.isEmpty_iff] using he,hQ st a w g h hR⟩
theorem TU.quiet {Q:St→Prop} (hne:ws.contains i=false) (sI:ops.toList.drop i=o :: tl) 
  (h:∀ a w g,Rel w0 g0 st a w g→∃ v,YV P ops o v a w∧Rel w0 g0 bD (a.put o.dst v) w g) (hq:TU P w0 g0 ops ws bs s l bD Q):TU P w0 g0 ops ws bs s ((i,0) :: l) st Q:=fun listed hs hc he a w g hR Q' hQ=>by
 have hi:=pJ sI
 simp only [vm,Bool.and_eq_true] at he
 obtain ⟨h1,h2⟩:=he
 obtain ⟨v,hy,hU⟩:=h a w g hR
 have P8:i ∈ Region.ready .any ops listed:=by simpa using h1.1.1.1
 have hnext:=hq (listed.setIfInBounds i true) hs (hc.set P8) h2 _ w g hU Q' hQ
 exact zR (n:=ops.size) hi (Region.noSelect_spec hs) hne _ listed a w hc (fun k hk=>by simpa using List.all_eq_true.1 h1.2 k hk) (Region.free_spec hi h1.1.1.2) P8 hy hnext
theorem TU.S7 {Q:St→Prop} {t:TS} (hne:ws.contains i=false) (sI:ops.toList.drop i=o :: tl) (hg:yes ops st o) (h:dQ P w0 g0 o st t) (hp:st.put o.dst t=bD) 
  (hq:TU P w0 g0 ops ws bs s l bD Q):TU P w0 g0 ops ws bs s ((i,0) :: l) st Q:=TU.quiet hne sI (fun a w g hR=>by
 obtain ⟨v,hr,hv⟩:=h a w g hR
 exact ⟨v, .inl ⟨ql hg hR,fun w' CX=>hr w' CX.2.2.2.2⟩,hp ▸ hR.put hv o.dst⟩) hq
def Hi (P:Program) (w0:World) (g0:Gh) (s:List Nat) (o:Oper) (st:St) (t:TS):Prop:=
 ∀ a w g,Rel w0 g0 st a w g→∃ v,(∀ w',Pinned s a w w'→(execOp a.eval o).run P w'= .ok (.value v) w')∧dy w g t v
def worldless:Op→Bool
 | .move _| .assign _=>true
 | _=>false
theorem Hi.pure {t:TS} (h:dQ P w0 g0 o st t) (hp:worldless o.op=true):Hi P w0 g0 s o st t:=fun a w g hR=>by
 obtain ⟨v,hr,hv⟩:=h a w g hR
 refine ⟨v,fun w' _=> ?_,hv⟩
 have h0:=hr w (Ext.refl w)
 cases ho:o.op <;> rw [ho] at hp <;> try cases hp
 case move x=>simp [execOp,ho] at h0 ⊢;exact h0
 case assign x=>simp [execOp,ho] at h0 ⊢;exact h0
theorem Hi.load {s:List Nat} {o:Oper} {t:TypeId} {x:Operand} (ho:o.op= .load t x) {pl:Pl} {q':Nat} (hx:T.cy 0 st x=some (.one (.ptr pl))) (x0:Nat) (hx0:x0 ∈ s) (hs:st.tmps[x0]? = some (.one (.ptr ⟨pl.k,pl.p,q'⟩))) (ht:u9 P t=some false) {c:C} (hc:st.cellAt pl=some c) (hm:st.gv pl=true):Hi P w0 g0 s o st (.one (.c (N3 pl c))):=
 fun a w g hR=>by
  have h1:=hR.cy hx
  have h0:=hR.tm x0 _ hs
  generalize hv:a.eval x=v at h1
  generalize hv0:a.tmps.getD x0 undef=v0 at h0
  cases h1 with
  | one _ _ h1=>
   cases h1 with
   | ptr _=>
    cases h0 with
    | one _ _ h0=>
     cases h0 with
     | ptr _=>
      have h2:=hR.cellAt hc
      refine ⟨g.cv pl.k pl.p pl.q,fun w' hw=> ?_, .one _ _ (.c _ _ h2.2.1)⟩
      have h3:=h2.2.2.1 hm
      have hlt:=World.block_lt_of_cell? w _ h3
      have h4:=hw.2 x0 hx0 _ hv0 hlt
      have h5:w'.cell? (bg (g.ad pl.k pl.p) pl.q)=some (g.cv pl.k pl.p pl.q):=by
       have h6:w'.heap[(bg (g.ad pl.k pl.p) pl.q).block]? = w.heap[(bg (g.ad pl.k pl.p) pl.q).block]? :=h4
       rw [World.cell?_of_block h6]
       exact h3
      simp [execOp,ho,hv,Instr.loadAt,Instr.sureAddr,loadVar,gO ht,h5]
theorem Hi.field {s:List Nat} {o:Oper} {x:Operand} {t:TypeId} {f:Nat} (ho:o.op= .fieldAddr t x f) {pl:Pl} (hx:T.cy 0 st x=some (.one (.ptr pl))) {off:Nat} (hf:p_ P t f=some off):Hi P w0 g0 s o st (.one (.ptr ⟨pl.k,pl.p,pl.q + off⟩)):=
 fun a w g hR=>by
  have h1:=hR.cy hx
  generalize hv:a.eval x=v at h1
  cases h1 with
  | one _ _ h1=>
   cases h1 with
   | ptr _=>
    refine ⟨_,fun w' hw=> ?_, .one _ _ (.ptr ⟨pl.k,pl.p,pl.q + off⟩)⟩
    simp [execOp,ho,hv,tD hf,sL]
theorem TU.opK {Q:St→Prop} (hin:ws.contains i=true∧bs.contains i=false) (sI:ops.toList.drop i=o :: tl) (hg:yes ops st o) 
  (h:∀ K:St→Prop,(∀ bD,TU P w0 g0 ops ws bs s l bD Q→K bD)→fX P w0 g0 o st K):TU P w0 g0 ops ws bs s ((i,1) :: l) st Q:=fun listed hs hc he a w g hR Q' hQ=>by
 have hi:=pJ sI
 simp only [vm,Bool.and_eq_true,beq_iff_eq] at he
 have h1:=he.1
 have P8:i ∈ Region.ready .any ops listed:=by rw [h1];exact List.mem_singleton.2 rfl
 refine ⟨fun h0=>(by rw [h1] at h0;cases h0),fun j hj=> ?_⟩
 rw [h1] at hj
 rw [List.mem_singleton.1 hj,if_pos hin.1,if_neg (by rw [hin.2];decide)]
 unfold wpOp
 simp only [hi,ql hg hR,if_true]
 exact .inl (h _ (fun _ h=>h) a w g hR _ _ fun bD a' w' g' hq hU=>hq _ hs (hc.set P8) he.2 a' w' g' hU Q' hQ)
def Gh.frame (g:Gh) (ks:List Nat) (n:Nat):Gh:={ g with o:=fun b=>match (g.o b).gu with
 | some k=>if ks.contains k then g.o b else if b < n then .ro else .outer
 | none=>if b < n then .ro else .outer }
def St.only (st:St) (ks:List Nat):St:=⟨st.tmps,st.roots.filter fun x=>ks.contains x.1⟩
theorem Bt (ks:List Nat) (k:Nat) (hk:ks.contains k=true):∀ l:List (Nat×Rt),(l.filter fun x=>ks.contains x.1).find? (fun x=>x.1 == k)=l.find? fun x=>x.1 == k
 | []=>rfl
 | x :: l=>by
  rw [List.filter_cons]
  by_cases h:x.1=k
  have:ks.contains x.1=true:=by rw [h];exact hk
  rw [if_pos this,List.find?_cons,List.find?_cons]
  simp [h]
  have hn:(x.1 == k)=false:=by simpa using h
  split
  rw [List.find?_cons,List.find?_cons,hn]
  exact Bt ks k hk l
  rw [List.find?_cons,hn]
  exact Bt ks k hk l
theorem Tj (ks:List Nat) (k:Nat) (hk:ks.contains k=false) (l:List (Nat×Rt)):(l.filter fun x=>ks.contains x.1).find? (fun x=>x.1 == k)=none:=by
 rw [List.find?_eq_none]
 intro x hx e
 have h1:=(List.mem_filter.1 hx).2
 have h2:x.1=k:=by simpa using e
 rw [h2,hk] at h1
 cases h1
theorem Iu {r:Rt} (h:(st.only ks).root k=some r):ks.contains k=true∧st.root k=some r:=by
 unfold St.root St.only at h
 cases hk:ks.contains k with
 | false=>rw [Tj ks k hk] at h;cases h
 | true=>rw [Bt ks k hk] at h;exact ⟨rfl,h⟩
section
variable {w w':World} {g g':Gh}
theorem fO.Mf (hro:∀ b,g.o b= .ro→g'.o b= .ro) (fL:g'.cv=g.cv) {c:C} (h:fO w g c u):fO w g' c u:=by
 cases c with
 | ro d=>exact Ro.mono (fun b hb=>⟨hro b hb,rfl⟩) h
 | own d=>exact h
 | ref pl=>have h1:u=g.cv pl.k pl.p pl.q∧u.oneCell'=true:=h;show u=g'.cv pl.k pl.p pl.q∧u.oneCell'=true;rw [fL];exact h1
 | dead=>trivial
theorem ef.Mf (hro:∀ b,g.o b= .ro→g'.o b= .ro) (fL:g'.cv=g.cv) (had:g'.ad=g.ad) {t:TV} (h:ef w g t u):ef w g' t u:=by
 cases h with
 | c c u hv=>exact .c c u (hv.Mf hro fL)
 | agg cs us hs hv=>exact .agg cs us hs fun j c u h1 h2=>(hv j c u h1 h2).Mf hro fL
 | ptr pl=>have:=ef.ptr (w:=w) (g:=g') pl;rw [had] at this;exact this
 | bV ds b off us ho hcell=>exact .bV ds b off us (hro b ho) fun j d hj=>⟨(hcell j d hj).1,(hcell j d hj).2.mono fun b hb=>⟨hro b hb,rfl⟩⟩
 | CV oC b off ho hcell=>exact .CV oC b off (hro b ho) fun j pl hj=>by rw [had];exact hcell j pl hj
 | o3 oC b off ho hcell=>exact .o3 oC b off (hro b ho) fun j pl hj=>by rw [had];exact hcell j pl hj
 | cut pl sz lo hi b off n c hc h1 h2 h3=>exact .cut pl sz lo hi b off n c (by rw [fL];exact hc) h1 h2 h3
 | dead u=>exact .dead u
theorem dy.Mf (hro:∀ b,g.o b= .ro→g'.o b= .ro) (fL:g'.cv=g.cv) (had:g'.ad=g.ad) {t:TS} (h:dy w g t u):dy w g' t u:=by
 cases h with
 | one t u hv=>exact .one t u (hv.Mf hro fL had)
 | lp ts us hs hv=>exact .lp ts us hs fun j t u h1 h2=>(hv j t u h1 h2).Mf hro fL had
 | fn f ts us hs hv=>exact .fn f ts us hs fun j t u h1 h2=>(hv j t u h1 h2).Mf hro fL had
end
theorem Rel.frame {g:Gh} (hR:Rel w0 g0 st a w g) (ks:List Nat):Rel w (g.frame ks w.heap.size) (st.only ks) a w (g.frame ks w.heap.size):=by
 have hlt:∀ b,g.o b ≠ .outer→b < w.heap.size:=fun b hb=>by
  rcases Nat.lt_or_ge b w.heap.size with h|h
  exact h
  exact absurd (hR.ks.fresh b h) hb
 have hro:∀ b,g.o b= .ro→(g.frame ks w.heap.size).o b= .ro:=fun b hb=>by
  simp only [Gh.frame,hb,Tag.gu]
  rw [if_pos (hlt b (by rw [hb];simp))]
 have hown:∀ k b,ks.contains k=true→(g.o b).gu = some k→(g.frame ks w.heap.size).o b=g.o b:=fun k b hk hb=>by
  simp only [Gh.frame,hb,hk,if_true]
 have hS:nw w g w (g.frame ks w.heap.size) (fun k=>ks.contains k=true):=⟨fun b hb=>⟨hro b hb,rfl⟩,fun k hk b hb=>⟨hown k b hk hb,rfl⟩,fun _ _=>rfl,fun _ _=>rfl⟩
 have hC:∀ k q c,ks.contains k=true→lE w g k q c→lE w (g.frame ks w.heap.size) k q c:=fun k q c hk h=>by
  cases c with
  | ro d=>exact Ro.mono (w:=w) (fun b hb=>⟨hro b hb,rfl⟩) h
  | own d=>exact Ow.mono hS hk h
  | ref pl=>exact h
  | dead=>trivial
 refine ⟨fun i tv hi=>(hR.tm i tv hi).Mf hro rfl rfl,hR.sz,hR.df,⟨fun k r hk q c hq=> ?_,fun k r hk hm=> ?_⟩,rfl,rfl,rfl,Nat.le_refl _,fun b hb _=>⟨rfl,rfl⟩,fun b hb=> ?_,fun b hb ho=> ?_,⟨fun _=>rfl,rfl⟩,fun b hb=> ?_⟩
 obtain ⟨h1,h2⟩:=Iu hk
 exact hC k q c h1 (hR.rt.cell k r h2 q c hq)
 obtain ⟨h1,h2⟩:=Iu hk
 obtain ⟨m1,m2,m3⟩:=hR.rt.mem k r h2 hm
 exact ⟨by show (g.frame ks w.heap.size).o (g.ad k []).1= .box k;rw [hown k _ h1 (by rw [m1];rfl)];exact m1,m2,m3⟩
 have h1:=hR.ks.fresh b hb
 simp only [Gh.frame,h1,Tag.gu,if_neg (Nat.not_lt.2 hb)]
 exact ⟨hb,ho⟩
 simp only [Gh.frame] at hb
 split at hb
 split at hb
 exact hR.ks.ie b hb
 split at hb <;> cases hb
 split at hb <;> cases hb
theorem JT {args:Array Operand} {nL:Array TypeId} (ho:o.op= .call { callee:= .builtin .append,args:=args,argTypes:=nL }) {n:Next} (h:(execOp a.eval o).run P w= .ok n w'):∃ v,n= .value v:=by
 simp [execOp,ho,resolve,invoke,builtin] at h
 generalize Sem.run P (Builtin.append_ nL o.type (Array.map a.eval args)) w=r at h
 cases r with
 | ok v w1=>
  simp [Result.andThen] at h
  exact ⟨v,h.1.symm⟩
 | halt x w1=>simp [Result.andThen] at h
theorem Cr {m:Nat} {parts:Array (Nat×Operand)} (ho:o.op= .buildSlice t m parts) {n:Next} (h:(execOp a.eval o).run P w= .ok n w'):∃ v,n= .value v:=by
 simp [execOp,ho] at h
 generalize Sem.run P (Instr.buildSlice t m (Array.map (fun x=>(x.1,a.eval x.2)) parts)) w=r at h
 cases r with
 | ok v w1=>
  simp [Result.andThen] at h
  exact ⟨v,h.1.symm⟩
 | halt x w1=>simp [Result.andThen] at h
theorem rq.of {o:Oper} {Q:St→Prop} (hv:∀ {a:Act} {w:World} {n:Next} {w':World},(execOp a.eval o).run P w= .ok n w'→∃ v,n= .value v) (hf:∀ w0 g0,∃ wB,fX P w0 g0 o (st.only []) (fun bD=>bD=wB)) (h:fX P w0 g0 o st Q):rq P w0 g0 o st Q:=fun a w g hR K hK=>by
 have hA:=h a w g hR K (fun _ _ _=>False) hK
 obtain ⟨wB,hf⟩:=hf w (g.frame [] w.heap.size)
 have hB:=hf a w _ (hR.frame []) (fun _ w'=>∃ g',lF w (g.frame [] w.heap.size) w' g') (fun _ _ _=>False) fun bD a' w' g' _ hU=>⟨g',hU.ks⟩
 unfold Oper.wp at hA hB
 generalize hr:(execOp a.eval o).run P w=r at hA hB
 cases r with
 | halt x w'=>cases x <;> exact hA.elim
 | ok n w'=>
  obtain ⟨v,rfl⟩:=hv hr
  obtain ⟨g',JQ⟩:∃ g',lF w (g.frame [] w.heap.size) w' g':=hB
  refine ⟨⟨JQ.os,JQ.tape,JQ.output,JQ.size,fun b hb=>(JQ.block b hb (.inl ?_)).1⟩,hA⟩
  simp only [Gh.frame]
  split
  simp [hb]
  exact if_pos hb
theorem rq.Oa {Q:St→Prop} {e:TypeId} {x:Operand} (ho:o.op= .buildSlice t 1 #[(0,x)]) (h9:∃ k,o.dst=some k∧k < 1000000) {tv:TV} {z:Nat} (hx:T.cy z st x=some (.one tv)) (hu:P.underlying t=some (.slice e)) {sz:Nat} (hs:jm P e=some sz) 
  {zv:Value} (hz:(P.info? e).bind (·.zero)=some zv) (SX:yB sz tv=true) (hsz:0 < sz) (Wm:sz ≤ 16777216) (h:fX P w0 g0 o st Q):rq P w0 g0 o st Q:=fun a w g hR K hK=>by
 have hA:=h a w g hR K (fun _ _ _=>False) hK
 obtain ⟨k,_,hkp⟩:=h9
 obtain ⟨cells,g',hrun,_⟩:=hR.built (xs:=[x]) ho rfl rfl k hkp (z:=z) (cZ:=[tv]) (by simp [T.xK,hx]) hu hs hz (by simp [SX]) hsz (by omega)
 unfold Oper.wp at hA
 rw [hrun] at hA ⊢
 refine ⟨⟨rfl,rfl,rfl, ?_,fun b hb=> ?_⟩,hA⟩
 show w.heap.size ≤ (w.heap.push _).size
 simp
 show (w.heap.push _)[b]? = w.heap[b]?
 rw [Array.getElem?_push,if_neg (by omega)]
theorem TU.opM {Q:St→Prop} (hne:ws.contains i=false) (sI:ops.toList.drop i=o :: tl) (hg:yes ops st o) 
  (h:∀ K:St→Prop,(∀ bD,TU P w0 g0 ops ws bs s l bD Q→K bD)→rq P w0 g0 o st K):TU P w0 g0 ops ws bs s ((i,1) :: l) st Q:=fun listed hs hc he a w g hR Q' hQ=>by
 have hi:=pJ sI
 simp only [vm,Bool.and_eq_true,beq_iff_eq] at he
 have h1:=he.1
 have P8:i ∈ Region.ready .any ops listed:=by rw [h1];exact List.mem_singleton.2 rfl
 refine ⟨fun h0=>(by rw [h1] at h0;cases h0),fun j hj=> ?_⟩
 rw [h1] at hj
 rw [List.mem_singleton.1 hj,if_neg (by rw [hne];decide)]
 unfold Ep
 simp only [hi,ql hg hR,if_true]
 exact h _ (fun _ h=>h) a w g hR _ fun bD a' w' g' hq hU=>hq _ hs (hc.set P8) he.2 a' w' g' hU Q' hQ
inductive yE (st:St) (ks:List Nat):List Nat→Prop
 | nil:yE st ks []
 | cons {x:Nat} {l:List Nat} {pl:Pl} {c:C} (h1:st.tmps[x]? = some (.one (.ptr pl))) (h2:st.cellAt pl=some c) (h3:st.gv pl=true) (h4:ks.contains pl.k=false) (h:yE st ks l):yE st ks (x :: l)
theorem yE.get {st:St} {l:List Nat} (h:yE st ks l):∀ x ∈ l,∃ pl c,st.tmps[x]? = some (.one (.ptr pl))∧st.cellAt pl=some c∧st.gv pl=true∧ks.contains pl.k=false:=by
 induction h with
 | nil=>intro x hx;cases hx
 | cons h1 h2 h3 h4 _ ih=>
  intro x hx
  rcases List.mem_cons.1 hx with rfl|hx
  exact ⟨_,_,h1,h2,h3,h4⟩
  exact ih x hx
end
end
end Go.Proofs.YtdliggkohdnipaaGreat.T
