import Derived.Test.YtdliggkohdnipaaGreatT3q
set_option linter.unusedVariables false
set_option linter.unusedSimpArgs false
namespace Go.Proofs.YtdliggkohdnipaaGreat.T
open Go
section
variable {a:Act} {ops:Array Oper} {l:List (Nat×Nat)} {bs ks s ws:List Nat} {tl:List Oper} {i k:Nat} {o:Oper} {bJ:St} {t:TypeId} {u v:Value} {w w':World}
def Pinned (s:List Nat) (a:Act) (w w':World):Prop:=w.heap.size ≤ w'.heap.size∧∀ x ∈ s,∀ A,a.tmps.getD x undef= .pointer (some A)→A.block < w.heap.size→w'.heap[A.block]? = w.heap[A.block]?
theorem Pinned.refl (s:List Nat) (a:Act) (w:World):Pinned s a w w:=⟨gL _,fun _ _ _ _ _=>rfl⟩
theorem Pinned.trans {a':Act} {w'':World} (h:Pinned s a w w') (ha:∀ x ∈ s,a'.tmps.getD x undef=a.tmps.getD x undef) (h':Pinned s a' w' w''):Pinned s a w w'':=
 ⟨eP h.1 h'.1,fun x hx A hA hlt=>by rw [h'.2 x hx A (by rw [ha x hx];exact hA) (Nat.lt_of_lt_of_le hlt h.1),h.2 x hx A hA hlt]⟩
theorem hJ.pinned (h:hJ w w'):Pinned s a w w':=⟨h.2.2.2.1,fun _ _ A _ hlt=>h.2.2.2.2 _ hlt⟩
theorem F4 {d:Option Nat} {s:Nat} (h:d ≠ some s):(a.put d v).tmps.getD s undef=a.tmps.getD s undef:=by
 cases d with
 | none=>rfl
 | some d=>
  have hne:d ≠ s:=fun e=>h (by rw [e])
  simp only [Act.put,Array.getD_eq_getD_getElem?]
  rw [Array.getElem?_setIfInBounds_ne hne]
def Lw (P:Program) (s:List Nat) (o:Oper) (a:Act) (w:World) (next:Act→World→Prop):Result Next→Prop
 | .ok (.value v) w'=>Pinned s a w w'∧next (a.put o.dst v) w'
 | .ok .skip w'=>Pinned s a w w'∧next (a.put o.dst undef) w'
 | _=>False
def Us (P:Program) (ops:Array Oper) (s:List Nat) (i:Nat) (K:Act→World→Prop) (a:Act) (w:World):Prop:=
 match ops[i]? with
 | none=>K a w
 | some o=>if Region.wanted o (yielded ops a.tmps) then Lw P s o a w K ((execOp a.eval o).run P w) else K (a.put o.dst undef) w
def o7 (P:Program) (md:Region.Mode) (ops:Array Oper) (Q:Exit→Act→World→Prop) (ws bs s:List Nat):Nat→Array Bool→Act→World→Prop
 | 0,listed,a,w=>Region.ready md ops listed=[]∧Q .normal a w
 | fuel + 1,listed,a,w=>(Region.ready md ops listed=[]→Q .normal a w)∧∀ i ∈ Region.ready md ops listed,
   if ws.contains i=true then (if bs.contains i=true then Us P ops s i (o7 P md ops Q ws bs s fuel (listed.setIfInBounds i true)) a w else wpOp P ops Q i (o7 P md ops Q ws bs s fuel (listed.setIfInBounds i true)) a w)
   else FZ P ops i (o7 P md ops Q ws bs s fuel (listed.setIfInBounds i true)) a w
def YS (P:Program) (ops:Array Oper) (s:List Nat) (o:Oper) (v:Value) (a:Act) (w:World):Prop:=
 (Region.wanted o (yielded ops a.tmps)=true∧∀ w',Pinned s a w w'→(execOp a.eval o).run P w'= .ok (.value v) w') ∨ (Region.wanted o (yielded ops a.tmps)=false∧v=undef)
section
variable {P:Program} {ops:Array Oper} {md:Region.Mode} {Q:Exit→Act→World→Prop} {ws bs s:List Nat}
theorem sOp_wp {K K':Act→World→Prop} (h:∀ a w,K a w→K' a w) (hh:Us P ops s i K a w):wpOp P ops Q i K' a w:=by
 unfold Us at hh
 unfold wpOp
 split
 ·rename_i ho;simp only [ho] at hh;exact h _ _ hh
 ·rename_i o ho
  simp only [ho] at hh
  split
  ·rename_i hw
   simp only [hw,if_true] at hh
   refine .inl ?_
   unfold Oper.wp
   generalize (execOp a.eval o).run P w=r at *
   cases r with
   | ok n w'=>
    cases n <;> simp only [Lw] at hh <;> simp only [Oper.upon]
    case value v=>exact h _ _ hh.2
    case skip=>exact h _ _ hh.2
   | halt x w'=>exact hh.elim
  ·rename_i hw;simp only [hw] at hh;exact h _ _ hh
theorem Va {K K':Act→World→Prop} (h:∀ a w,K a w→K' a w) (hh:Us P ops s i K a w):Us P ops s i K' a w:=by
 unfold Us at *
 split
 ·exact h _ _ (by simpa [*] using hh)
 ·rename_i o ho
  simp only [ho] at hh
  split
  ·rename_i hw
   simp only [hw,if_true] at hh
   generalize (execOp a.eval o).run P w=r at *
   cases r with
   | ok n w'=>
    cases n <;> simp only [Lw] at hh ⊢
    case value v=>exact ⟨hh.1,h _ _ hh.2⟩
    case skip=>exact ⟨hh.1,h _ _ hh.2⟩
   | halt x w'=>exact hh.elim
  ·rename_i hw;simp only [hw] at hh;exact h _ _ hh
theorem r8:∀ (fuel:Nat) (listed:Array Bool) (a:Act) (w:World),o7 P md ops Q ws bs s fuel listed a w→wpAny P md ops Q fuel listed a w
 | 0,_,_,_,h=>h
 | fuel + 1,_,_,_,h=>⟨h.1,fun i hi=>by
  have h1:=h.2 i hi
  split at h1
  split at h1
  exact sOp_wp (fun a' w'=>r8 fuel _ a' w') h1
  exact P0 (fun a' w'=>r8 fuel _ a' w') h1
  exact mOp_wp (fun a' w'=>r8 fuel _ a' w') h1⟩
theorem uH {l:Array Bool} (h0:l.getD k true=false) (h1:l.getD k false=true):False:=by
 rcases Nat.lt_or_ge k l.size with h'|h'
 simp [h'] at h0 h1;rw [h0] at h1;cases h1
 simp [Array.getElem?_eq_none h'] at h1
theorem Bq {i:Nat} {oi:Oper} {v:Value} (hi:ops[i]? = some oi) (hsel:∀ (j:Nat) (o:Oper) cs b,ops[j]? = some o→o.op ≠ .select cs b) (hne:ws.contains i=false) {n:Nat}:
  ∀ (fuel:Nat) (listed:Array Bool) (a:Act) (w:World),vm md ops listed→(∀ k ∈ ws,listed.getD k false=true ∨ reaches md ops n k i=true)→
   (∀ j oj,ops[j]? = some oj→j ≠ i→listed.getD j true=false→(∀ e ∈ oj.after,Region.binds md e=true→e.on ≠ i)→oi.apart ops oj=true)→
   i ∈ Region.ready md ops listed→YV P ops oi v a w→
   o7 P md ops Q ws bs s fuel (listed.setIfInBounds i true) (a.put oi.dst v) w→o7 P md ops Q ws bs s (fuel + 1) listed a w:=by
 intro fuel
 induction fuel with
 | zero=>
  intro listed a w _ _ _ hr hy H
  refine ⟨fun h=>(by rw [h] at hr;cases hr),fun j hj=> ?_⟩
  by_cases hji:j=i
  subst hji;rw [if_neg (by rw [hne];decide)];exact hy.FZ hi H
  have:=ready_mono hj hji
  rw [H.1] at this
  cases this
 | succ fuel ih=>
  intro listed a w S8 hre hfree hr hy H
  refine ⟨fun h=>(by rw [h] at hr;cases hr),fun j hj=> ?_⟩
  by_cases hji:j=i
  subst hji;rw [if_neg (by rw [hne];decide)];exact hy.FZ hi H
  obtain ⟨NI,oj,Ut,hall⟩:=mem_ready.1 hj
  have h0:=(mem_ready.1 hr).1
  have hjw:ws.contains j=false:=by
   rw [dG]
   intro e
   have hjm:j ∈ ws:=by simpa using e
   rcases hre j hjm with h1|h1
   exact uH NI h1
   exact uH h0 (r6 S8 n j (fun o ho e he hb=>by rw [Ut] at ho;cases ho;exact hall e he hb) h1)
  rw [if_neg (by rw [hjw];decide)]
  have h1:=H.2 j (ready_mono hj hji)
  rw [if_neg (by rw [hjw];decide)] at h1
  have hnot:∀ e ∈ oj.after,Region.binds md e=true→e.on ≠ i:=fun e he hb heq=>by
   have h1:=hall e he hb
   rw [heq] at h1
   exact uH h0 h1
  have h2:=X9 Ut (hfree j oj Ut hji NI hnot) (fun cs b=>hsel i oi cs b hi) (fun cs b=>hsel j oj cs b Ut) hy h1
  have hfree':∀ k ok,ops[k]? = some ok→k ≠ i→(listed.setIfInBounds j true).getD k true=false→
    (∀ e ∈ ok.after,Region.binds md e=true→e.on ≠ i)→oi.apart ops ok=true:=fun k ok hk hki hun hno=>by
   refine hfree k ok hk hki ?_ hno
   by_cases FW:j=k
   subst FW;exact NI
   rw [getD_set_ne true FW] at hun;exact hun
  refine NA (fun a' w' h3=>ih (listed.setIfInBounds j true) a' w' (S8.set hj) (fun k hk=>(hre k hk).imp (fun h=>getD_set_true h) id) hfree' (ready_mono hr (Ne.symm hji)) h3.1 ?_) h2
  rw [Array.setIfInBounds_comm _ _ hji]
  exact h3.2
theorem YS.run (hi:ops[i]? = some o) (hy:YS P ops s o v a w) {K:Act→World→Prop} (h:K (a.put o.dst v) w):FZ P ops i K a w:=by
 unfold T.FZ
 simp only [hi]
 rcases hy with ⟨hw,hv⟩|⟨hw,rfl⟩
 simp only [hw,if_true,hv w (Pinned.refl s a w)]
 exact ⟨hJ.refl w,h⟩
 simp only [hw,gD,if_false];exact h
theorem Rx {oi oj:Oper} (hap:oi.apart ops oj=true) (hsi:∀ cs b,oi.op ≠ .select cs b) (XO:∀ x ∈ s,oj.dst ≠ some x) (hy:YS P ops s oi v a w) (u:Value) (w':World) (Eh:Pinned s a w w'):YS P ops s oi v (a.put oj.dst u) w':=by
 obtain ⟨h1,h2,h3⟩:=Oper.apart_spec hap
 unfold YS at *
 rw [execOp_put oi hsi a oj.dst u h3,wanted_put oi a oj.dst u h3]
 exact hy.imp (fun h=>⟨h.1,fun w'' hw''=>h.2 w'' (Eh.trans (fun x hx=>F4 (XO x hx)) hw'')⟩) id
theorem Vb {j:Nat} {oi oj:Oper} {v:Value} (hj:ops[j]? = some oj) (hap:oi.apart ops oj=true) (hsi:∀ cs b,oi.op ≠ .select cs b) (hsj:∀ cs b,oj.op ≠ .select cs b) (XO:∀ x ∈ s,oj.dst ≠ some x)
  {K:Act→World→Prop} {a:Act} {w:World} (hy:YS P ops s oi v a w) (h:FZ P ops j K (a.put oi.dst v) w):FZ P ops j (fun a' w'=>YS P ops s oi v a' w'∧K (a'.put oi.dst v) w') a w:=by
 obtain ⟨h1,h2,h3⟩:=Oper.apart_spec hap
 have keep:∀ u w',hJ w w'→YS P ops s oi v (a.put oj.dst u) w':=fun u w' Eh=>Rx hap hsi XO hy u w' Eh.pinned
 unfold FZ at *
 simp only [hj] at *
 rw [wanted_put oj a oi.dst v h1] at h
 split
 ·rename_i hw
  simp only [hw,if_true] at h
  rw [execOp_put oj hsj a oi.dst v h1] at h
  generalize (execOp a.eval oj).run P w=r at *
  cases r with
  | ok n w'=>
   cases n <;> simp only [DK] at h ⊢
   case value u=>exact ⟨h.1,keep u _ h.1,by rw [← Act.put_comm a v u h2];exact h.2⟩
   case skip=>exact ⟨h.1,keep _ _ h.1,by rw [← Act.put_comm a v undef h2];exact h.2⟩
   case enter f args=>exact ⟨h.1,h.2.mono fun e w'' ⟨u,e1,e2,e3⟩=>⟨u,e1,e2,keep u _ e2,by rw [← Act.put_comm a v u h2];exact e3⟩⟩
  | halt x w'=>exact h.elim
 ·rename_i hw
  simp only [hw] at h
  exact ⟨keep _ _ (hJ.refl w),by rw [← Act.put_comm a v undef h2];exact h⟩
theorem Vc {j:Nat} {oi oj:Oper} {v:Value} (hj:ops[j]? = some oj) (hap:oi.apart ops oj=true) (hsi:∀ cs b,oi.op ≠ .select cs b) (hsj:∀ cs b,oj.op ≠ .select cs b) (XO:∀ x ∈ s,oj.dst ≠ some x) (hdi:∀ x ∈ s,oi.dst ≠ some x)
  {K:Act→World→Prop} {a:Act} {w:World} (hy:YS P ops s oi v a w) (h:Us P ops s j K (a.put oi.dst v) w):Us P ops s j (fun a' w'=>YS P ops s oi v a' w'∧K (a'.put oi.dst v) w') a w:=by
 obtain ⟨h1,h2,h3⟩:=Oper.apart_spec hap
 unfold Us at *
 simp only [hj] at *
 rw [wanted_put oj a oi.dst v h1] at h
 split
 ·rename_i hw
  simp only [hw,if_true] at h
  rw [execOp_put oj hsj a oi.dst v h1] at h
  generalize (execOp a.eval oj).run P w=r at *
  cases r with
  | ok n w'=>
   cases n <;> simp only [Lw] at h ⊢
   case value u=>
    have hp:Pinned s a w w':=⟨h.1.1,fun x hx A hA hlt=>h.1.2 x hx A (by rw [F4 (hdi x hx)];exact hA) hlt⟩
    exact ⟨hp,Rx hap hsi XO hy u _ hp,by rw [← Act.put_comm a v u h2];exact h.2⟩
   case skip=>
    have hp:Pinned s a w w':=⟨h.1.1,fun x hx A hA hlt=>h.1.2 x hx A (by rw [F4 (hdi x hx)];exact hA) hlt⟩
    exact ⟨hp,Rx hap hsi XO hy undef _ hp,by rw [← Act.put_comm a v undef h2];exact h.2⟩
  | halt x w'=>exact h.elim
 ·rename_i hw
  simp only [hw] at h
  exact ⟨Rx hap hsi XO hy _ _ (Pinned.refl s a w),by rw [← Act.put_comm a v undef h2];exact h⟩
theorem I6 {i:Nat} {oi:Oper} {v:Value} (hi:ops[i]? = some oi) (hsel:∀ (j:Nat) (o:Oper) cs b,ops[j]? = some o→o.op ≠ .select cs b) (hne:ws.contains i=false) (hdi:∀ x ∈ s,oi.dst ≠ some x) {n:Nat}:
  ∀ (fuel:Nat) (listed:Array Bool) (a:Act) (w:World),vm md ops listed→(∀ k ∈ ws,bs.contains k=true ∨ listed.getD k false=true ∨ reaches md ops n k i=true)→
   (∀ j oj,ops[j]? = some oj→j ≠ i→listed.getD j true=false→(∀ e ∈ oj.after,Region.binds md e=true→e.on ≠ i)→oi.apart ops oj=true)→
   (∀ j oj,ops[j]? = some oj→j ≠ i→listed.getD j true=false→∀ x ∈ s,oj.dst ≠ some x)→
   i ∈ Region.ready md ops listed→YS P ops s oi v a w→
   o7 P md ops Q ws bs s fuel (listed.setIfInBounds i true) (a.put oi.dst v) w→o7 P md ops Q ws bs s (fuel + 1) listed a w:=by
 intro fuel
 induction fuel with
 | zero=>
  intro listed a w _ _ _ _ hr hy H
  refine ⟨fun h=>(by rw [h] at hr;cases hr),fun j hj=> ?_⟩
  by_cases hji:j=i
  subst hji;rw [if_neg (by rw [hne];decide)];exact hy.run hi H
  have:=ready_mono hj hji
  rw [H.1] at this
  cases this
 | succ fuel ih=>
  intro listed a w S8 hre hfree hds hr hy H
  refine ⟨fun h=>(by rw [h] at hr;cases hr),fun j hj=> ?_⟩
  by_cases hji:j=i
  subst hji;rw [if_neg (by rw [hne];decide)];exact hy.run hi H
  obtain ⟨NI,oj,Ut,hall⟩:=mem_ready.1 hj
  have h0:=(mem_ready.1 hr).1
  have h1:=H.2 j (ready_mono hj hji)
  have hnot:∀ e ∈ oj.after,Region.binds md e=true→e.on ≠ i:=fun e he hb heq=>by
   have h1:=hall e he hb
   rw [heq] at h1
   exact uH h0 h1
  have hap:=hfree j oj Ut hji NI hnot
  have XO:=hds j oj Ut hji NI
  have hun':∀ {k:Nat},(listed.setIfInBounds j true).getD k true=false→listed.getD k true=false:=fun {k} hun=>by
   by_cases FW:j=k
   subst FW;exact NI
   rw [getD_set_ne true FW] at hun;exact hun
  have go:∀ a' w',YS P ops s oi v a' w'∧o7 P md ops Q ws bs s fuel ((listed.setIfInBounds i true).setIfInBounds j true) (a'.put oi.dst v) w'→o7 P md ops Q ws bs s (fuel + 1) (listed.setIfInBounds j true) a' w':=fun a' w' h3=>by
   refine ih (listed.setIfInBounds j true) a' w' (S8.set hj) (fun k hk=>(hre k hk).imp id (Or.imp (fun h=>getD_set_true h) id)) (fun k ok hk hki hun hno=>hfree k ok hk hki (hun' hun) hno) (fun k ok hk hki hun=>hds k ok hk hki (hun' hun)) (ready_mono hr (Ne.symm hji)) h3.1 ?_
   rw [Array.setIfInBounds_comm _ _ hji]
   exact h3.2
  by_cases hjw:ws.contains j=true
  rw [if_pos hjw] at h1 ⊢
  have hjb:bs.contains j=true:=by
   have hjm:j ∈ ws:=by simpa using hjw
   rcases hre j hjm with h2|h2|h2
   exact h2
   exact (uH NI h2).elim
   exact (uH h0 (r6 S8 n j (fun o ho e he hb=>by rw [Ut] at ho;cases ho;exact hall e he hb) h2)).elim
  rw [if_pos hjb] at h1 ⊢
  exact Va go (Vc Ut hap (fun cs b=>hsel i oi cs b hi) (fun cs b=>hsel j oj cs b Ut) XO hdi hy h1)
  rw [if_neg hjw] at h1 ⊢
  exact NA go (Vb Ut hap (fun cs b=>hsel i oi cs b hi) (fun cs b=>hsel j oj cs b Ut) XO hy h1)
end
def xk (ops:Array Oper) (ws bs s:List Nat):List (Nat×Nat)→Array Bool→Bool
 | [],listed=>(Region.ready .any ops listed).isEmpty
 | (i,b) :: l,listed=>(match b with
   | 1=>Region.ready .any ops listed == [i]
   | 0=>(Region.ready .any ops listed).contains i && Region.free .any ops listed i && !ws.contains i && ws.all (fun k=>listed.getD k false || reaches .any ops ops.size k i)
   | _=>(Region.ready .any ops listed).contains i && Region.free .any ops listed i && !ws.contains i && ws.all (fun k=>bs.contains k || (listed.getD k false || reaches .any ops ops.size k i)) &&
     (List.range ops.size).all (fun j=>j == i && s.all (fun x=>((ops[j]?).bind (·.dst)) != some x) || j != i && (listed.getD j true || s.all fun x=>((ops[j]?).bind (·.dst)) != some x)))
   && xk ops ws bs s l (listed.setIfInBounds i true)
def Lx (ops:Array Oper) (ws bs s:List Nat) (l:List (Nat×Nat)):Bool:=Region.noSelect ops && l.length == ops.size && xk ops ws bs s l (Array.replicate ops.size false)
section
variable {P:Program} {w0:World} {g0:Gh} {st:St}
def TU (P:Program) (w0:World) (g0:Gh) (ops:Array Oper) (ws bs s:List Nat) (l:List (Nat×Nat)) (st:St) (Q:St→Prop):Prop:=
 ∀ listed,Region.noSelect ops=true→vm .any ops listed→xk ops ws bs s l listed=true→∀ a w g,Rel w0 g0 st a w g→∀ (Q':Exit→Act→World→Prop),(∀ bJ a' w' g',Q bJ→Rel w0 g0 bJ a' w' g'→Q' .normal a' w')→
  o7 P .any ops Q' ws bs s l.length listed a w
theorem TC.Yi {Q:Exit→St→Prop} (ws bs s:List Nat) (l:List (Nat×Nat)) (hm:P.follows .mixedOrders=true) (hB:Lx ops ws bs s l=true) (h:TU P w0 g0 ops ws bs s l st (fun bJ=>Q .normal bJ)):
  TC P w0 g0 (.region i ops true) st Q:=fun a w g hR=>by
 simp only [Lx,bh,beq_iff_eq] at hB
 obtain ⟨⟨h1,h2⟩,h3⟩:=hB
 have iU:Rel w0 g0 st a { w with drawn:=w.drawn + 1 } g:=hR.drew
 refine wp_region_any hm (r8 (ws:=ws) (bs:=bs) (s:=s) _ _ _ _ ?_)
 rw [← h2] at h3 ⊢
 refine h _ h1 (fun j o ho hj=> ?_) (by rw [h2] at h3 ⊢;exact h3) a _ g iU _ fun bJ a' w' g' hq hr=>⟨bJ,g',hq,hr⟩
 simp [Array.getElem?_replicate] at hj
 split at hj <;> simp at hj
theorem TU.nil {Q:St→Prop} (h:Q st):TU P w0 g0 ops ws bs s [] st Q:=fun listed hs hc he a w g hR Q' hQ=>
 ⟨by simpa [xk,List.isEmpty_iff] using he,hQ st a w g h hR⟩
theorem TU.quiet {Q:St→Prop} (hne:ws.contains i=false) (uq:ops.toList.drop i=o :: tl) 
  (h:∀ a w g,Rel w0 g0 st a w g→∃ v,YV P ops o v a w∧Rel w0 g0 bJ (a.put o.dst v) w g) (hq:TU P w0 g0 ops ws bs s l bJ Q):TU P w0 g0 ops ws bs s ((i,0) :: l) st Q:=fun listed hs hc he a w g hR Q' hQ=>by
 have hi:=rz uq
 simp only [xk,bh] at he
 obtain ⟨h1,h2⟩:=he
 obtain ⟨v,hy,iU⟩:=h a w g hR
 have Ry:i ∈ Region.ready .any ops listed:=by simpa using h1.1.1.1
 have hnext:=hq (listed.setIfInBounds i true) hs (hc.set Ry) h2 _ w g iU Q' hQ
 exact Bq (n:=ops.size) hi (Region.noSelect_spec hs) hne _ listed a w hc (fun k hk=>by simpa using eY.1 h1.2 k hk) (Region.free_spec hi h1.1.1.2) Ry hy hnext
theorem TU.U0 {Q:St→Prop} {t:TS} (hne:ws.contains i=false) (uq:ops.toList.drop i=o :: tl) (hg:yes ops st o) (h:eA P w0 g0 o st t) (hp:st.put o.dst t=bJ) 
  (hq:TU P w0 g0 ops ws bs s l bJ Q):TU P w0 g0 ops ws bs s ((i,0) :: l) st Q:=TU.quiet hne uq (fun a w g hR=>by
 obtain ⟨v,hr,hv⟩:=h a w g hR
 exact ⟨v, .inl ⟨tT hg hR,fun w' Eh=>hr w' Eh.2.2.2.2⟩,hp ▸ hR.put hv o.dst⟩) hq
def I7 (P:Program) (w0:World) (g0:Gh) (s:List Nat) (o:Oper) (st:St) (t:TS):Prop:=
 ∀ a w g,Rel w0 g0 st a w g→∃ v,(∀ w',Pinned s a w w'→(execOp a.eval o).run P w'= .ok (.value v) w')∧dN w g t v
def worldless:Op→Bool
 | .move _| .assign _=>true
 | _=>false
theorem I7.pure {t:TS} (h:eA P w0 g0 o st t) (hp:worldless o.op=true):I7 P w0 g0 s o st t:=fun a w g hR=>by
 obtain ⟨v,hr,hv⟩:=h a w g hR
 refine ⟨v,fun w' _=> ?_,hv⟩
 have h0:=hr w (Ext.refl w)
 cases ho:o.op <;> rw [ho] at hp <;> try cases hp
 case move x=>simp [execOp,ho] at h0 ⊢;exact h0
 case assign x=>simp [execOp,ho] at h0 ⊢;exact h0
theorem I7.load {s:List Nat} {o:Oper} {t:TypeId} {x:Operand} (ho:o.op= .load t x) {pl:Pl} {q':Nat} (hx:T.cH 0 st x=some (.one (.ptr pl))) (x0:Nat) (hx0:x0 ∈ s) (hs:st.tmps[x0]? = some (.one (.ptr ⟨pl.k,pl.p,q'⟩))) (ht:wZ P t=some false) {c:C} (hc:st.cellAt pl=some c) (hm:st.g_ pl=true):I7 P w0 g0 s o st (.one (.c (PD pl c))):=
 fun a w g hR=>by
  have h1:=hR.cH hx
  have h0:=hR.tm x0 _ hs
  generalize hv:a.eval x=v at h1
  generalize hv0:a.tmps.getD x0 undef=v0 at h0
  cases h1 with
  | one _ _ h1=>
   cases h1 with
   | ptr _=>
    cases h0 with
    | one _ _ h0=>
     cases h0 with
     | ptr _=>
      have h2:=hR.cellAt hc
      refine ⟨g.cv pl.k pl.p pl.q,fun w' hw=> ?_, .one _ _ (.c _ _ h2.2.1)⟩
      have h3:=h2.2.2.1 hm
      have hlt:=World.block_lt_of_cell? w _ h3
      have h4:=hw.2 x0 hx0 _ hv0 hlt
      have h5:w'.cell? (bw (g.ad pl.k pl.p) pl.q)=some (g.cv pl.k pl.p pl.q):=by
       have h6:w'.heap[(bw (g.ad pl.k pl.p) pl.q).block]? = w.heap[(bw (g.ad pl.k pl.p) pl.q).block]? :=h4
       rw [World.cell?_of_block h6]
       exact h3
      simp [execOp,ho,hv,Instr.loadAt,Instr.sureAddr,loadVar,iy ht,h5]
theorem I7.field {s:List Nat} {o:Oper} {x:Operand} {t:TypeId} {f:Nat} (ho:o.op= .fieldAddr t x f) {pl:Pl} (hx:T.cH 0 st x=some (.one (.ptr pl))) {off:Nat} (hf:rV P t f=some off):I7 P w0 g0 s o st (.one (.ptr ⟨pl.k,pl.p,pl.q + off⟩)):=
 fun a w g hR=>by
  have h1:=hR.cH hx
  generalize hv:a.eval x=v at h1
  cases h1 with
  | one _ _ h1=>
   cases h1 with
   | ptr _=>
    refine ⟨_,fun w' hw=> ?_, .one _ _ (.ptr ⟨pl.k,pl.p,pl.q + off⟩)⟩
    simp [execOp,ho,hv,vh hf,uw]
theorem TU.opK {Q:St→Prop} (hin:ws.contains i=true∧bs.contains i=false) (uq:ops.toList.drop i=o :: tl) (hg:yes ops st o) 
  (h:∀ K:St→Prop,(∀ bJ,TU P w0 g0 ops ws bs s l bJ Q→K bJ)→gJ P w0 g0 o st K):TU P w0 g0 ops ws bs s ((i,1) :: l) st Q:=fun listed hs hc he a w g hR Q' hQ=>by
 have hi:=rz uq
 simp only [xk,bh,beq_iff_eq] at he
 have h1:=he.1
 have Ry:i ∈ Region.ready .any ops listed:=by rw [h1];exact o5.2 rfl
 refine ⟨fun h0=>(by rw [h1] at h0;cases h0),fun j hj=> ?_⟩
 rw [h1] at hj
 rw [o5.1 hj,if_pos hin.1,if_neg (by rw [hin.2];decide)]
 unfold wpOp
 simp only [hi,tT hg hR,if_true]
 exact .inl (h _ (fun _ h=>h) a w g hR _ _ fun bJ a' w' g' hq iU=>hq _ hs (hc.set Ry) he.2 a' w' g' iU Q' hQ)
def Gh.frame (g:Gh) (ks:List Nat) (n:Nat):Gh:={ g with o:=fun b=>match (g.o b).gZ with
 | some k=>if ks.contains k then g.o b else if b < n then .ro else .outer
 | none=>if b < n then .ro else .outer }
def St.only (st:St) (ks:List Nat):St:=⟨st.tmps,st.roots.filter fun x=>ks.contains x.1⟩
theorem CK (ks:List Nat) (k:Nat) (hk:ks.contains k=true):∀ l:List (Nat×Rt),(l.filter fun x=>ks.contains x.1).find? (fun x=>x.1 == k)=l.find? fun x=>x.1 == k
 | []=>rfl
 | x :: l=>by
  rw [List.filter_cons]
  by_cases h:x.1=k
  have:ks.contains x.1=true:=by rw [h];exact hk
  rw [if_pos this,List.find?_cons,List.find?_cons]
  simp [h]
  have hn:(x.1 == k)=false:=by simpa using h
  split
  rw [List.find?_cons,List.find?_cons,hn]
  exact CK ks k hk l
  rw [List.find?_cons,hn]
  exact CK ks k hk l
theorem Vd (ks:List Nat) (k:Nat) (hk:ks.contains k=false) (l:List (Nat×Rt)):(l.filter fun x=>ks.contains x.1).find? (fun x=>x.1 == k)=none:=by
 rw [List.find?_eq_none]
 intro x hx e
 have h1:=(List.mem_filter.1 hx).2
 have h2:x.1=k:=by simpa using e
 rw [h2,hk] at h1
 cases h1
theorem J5 {r:Rt} (h:(st.only ks).root k=some r):ks.contains k=true∧st.root k=some r:=by
 unfold St.root St.only at h
 cases hk:ks.contains k with
 | false=>rw [Vd ks k hk] at h;cases h
 | true=>rw [CK ks k hk] at h;exact ⟨rfl,h⟩
section
variable {w w':World} {g g':Gh}
theorem gC.NJ (hro:∀ b,g.o b= .ro→g'.o b= .ro) (gz:g'.cv=g.cv) {c:C} (h:gC w g c u):gC w g' c u:=by
 cases c with
 | ro d=>exact Ro.mono (fun b hb=>⟨hro b hb,rfl⟩) h
 | own d=>exact h
 | ref pl=>have h1:u=g.cv pl.k pl.p pl.q∧u.oneCell'=true:=h;show u=g'.cv pl.k pl.p pl.q∧u.oneCell'=true;rw [gz];exact h1
 | dead=>trivial
theorem eV.NJ (hro:∀ b,g.o b= .ro→g'.o b= .ro) (gz:g'.cv=g.cv) (had:g'.ad=g.ad) {t:TV} (h:eV w g t u):eV w g' t u:=by
 cases h with
 | c c u hv=>exact .c c u (hv.NJ hro gz)
 | agg cs us hs hv=>exact .agg cs us hs fun j c u h1 h2=>(hv j c u h1 h2).NJ hro gz
 | ptr pl=>have:=eV.ptr (w:=w) (g:=g') pl;rw [had] at this;exact this
 | b9 ds b off us ho hcell=>exact .b9 ds b off us (hro b ho) fun j d hj=>⟨(hcell j d hj).1,(hcell j d hj).2.mono fun b hb=>⟨hro b hb,rfl⟩⟩
 | Ef ql b off ho hcell=>exact .Ef ql b off (hro b ho) fun j pl hj=>by rw [had];exact hcell j pl hj
 | qV ql b off ho hcell=>exact .qV ql b off (hro b ho) fun j pl hj=>by rw [had];exact hcell j pl hj
 | cut pl sz lo hi b off n c hc h1 h2 h3=>exact .cut pl sz lo hi b off n c (by rw [gz];exact hc) h1 h2 h3
 | dead u=>exact .dead u
theorem dN.NJ (hro:∀ b,g.o b= .ro→g'.o b= .ro) (gz:g'.cv=g.cv) (had:g'.ad=g.ad) {t:TS} (h:dN w g t u):dN w g' t u:=by
 cases h with
 | one t u hv=>exact .one t u (hv.NJ hro gz had)
 | mj ts us hs hv=>exact .mj ts us hs fun j t u h1 h2=>(hv j t u h1 h2).NJ hro gz had
 | fn f ts us hs hv=>exact .fn f ts us hs fun j t u h1 h2=>(hv j t u h1 h2).NJ hro gz had
end
theorem Rel.frame {g:Gh} (hR:Rel w0 g0 st a w g) (ks:List Nat):Rel w (g.frame ks w.heap.size) (st.only ks) a w (g.frame ks w.heap.size):=by
 have hlt:∀ b,g.o b ≠ .outer→b < w.heap.size:=fun b hb=>by
  rcases Nat.lt_or_ge b w.heap.size with h|h
  exact h
  exact absurd (hR.ks.fresh b h) hb
 have hro:∀ b,g.o b= .ro→(g.frame ks w.heap.size).o b= .ro:=fun b hb=>by
  simp only [Gh.frame,hb,Tag.gZ]
  rw [if_pos (hlt b (by rw [hb];simp))]
 have hown:∀ k b,ks.contains k=true→(g.o b).gZ = some k→(g.frame ks w.heap.size).o b=g.o b:=fun k b hk hb=>by
  simp only [Gh.frame,hb,hk,if_true]
 have hS:oN w g w (g.frame ks w.heap.size) (fun k=>ks.contains k=true):=⟨fun b hb=>⟨hro b hb,rfl⟩,fun k hk b hb=>⟨hown k b hk hb,rfl⟩,fun _ _=>rfl,fun _ _=>rfl⟩
 have hC:∀ k q c,ks.contains k=true→m6 w g k q c→m6 w (g.frame ks w.heap.size) k q c:=fun k q c hk h=>by
  cases c with
  | ro d=>exact Ro.mono (w:=w) (fun b hb=>⟨hro b hb,rfl⟩) h
  | own d=>exact Ow.mono hS hk h
  | ref pl=>exact h
  | dead=>trivial
 refine ⟨fun i tv hi=>(hR.tm i tv hi).NJ hro rfl rfl,hR.sz,hR.df,⟨fun k r hk q c hq=> ?_,fun k r hk hm=> ?_⟩,rfl,rfl,rfl,gL _,fun b hb _=>⟨rfl,rfl⟩,fun b hb=> ?_,fun b hb ho=> ?_,⟨fun _=>rfl,rfl⟩,fun b hb=> ?_⟩
 obtain ⟨h1,h2⟩:=J5 hk
 exact hC k q c h1 (hR.rt.cell k r h2 q c hq)
 obtain ⟨h1,h2⟩:=J5 hk
 obtain ⟨m1,m2,m3⟩:=hR.rt.mem k r h2 hm
 exact ⟨by show (g.frame ks w.heap.size).o (g.ad k []).1= .box k;rw [hown k _ h1 (by rw [m1];rfl)];exact m1,m2,m3⟩
 have h1:=hR.ks.fresh b hb
 simp only [Gh.frame,h1,Tag.gZ,if_neg (Nat.not_lt.2 hb)]
 exact ⟨hb,ho⟩
 simp only [Gh.frame] at hb
 split at hb
 split at hb
 exact hR.ks.iS b hb
 split at hb <;> cases hb
 split at hb <;> cases hb
theorem Ly {args:Array Operand} {qA:Array TypeId} (ho:o.op= .call { callee:= .builtin .append,args:=args,argTypes:=qA }) {n:Next} (h:(execOp a.eval o).run P w= .ok n w'):∃ v,n= .value v:=by
 simp [execOp,ho,resolve,invoke,builtin] at h
 generalize Sem.run P (Builtin.append_ qA o.type (Array.map a.eval args)) w=r at h
 cases r with
 | ok v w1=>
  simp [Result.andThen] at h
  exact ⟨v,h.1.symm⟩
 | halt x w1=>simp [Result.andThen] at h
theorem DO {m:Nat} {parts:Array (Nat×Operand)} (ho:o.op= .buildSlice t m parts) {n:Next} (h:(execOp a.eval o).run P w= .ok n w'):∃ v,n= .value v:=by
 simp [execOp,ho] at h
 generalize Sem.run P (Instr.buildSlice t m (Array.map (fun x=>(x.1,a.eval x.2)) parts)) w=r at h
 cases r with
 | ok v w1=>
  simp [Result.andThen] at h
  exact ⟨v,h.1.symm⟩
 | halt x w1=>simp [Result.andThen] at h
theorem s3.of {o:Oper} {Q:St→Prop} (hv:∀ {a:Act} {w:World} {n:Next} {w':World},(execOp a.eval o).run P w= .ok n w'→∃ v,n= .value v) (hf:∀ w0 g0,∃ yy,gJ P w0 g0 o (st.only []) (fun bJ=>bJ=yy)) (h:gJ P w0 g0 o st Q):s3 P w0 g0 o st Q:=fun a w g hR K hK=>by
 have hA:=h a w g hR K (fun _ _ _=>False) hK
 obtain ⟨yy,hf⟩:=hf w (g.frame [] w.heap.size)
 have hB:=hf a w _ (hR.frame []) (fun _ w'=>∃ g',m7 w (g.frame [] w.heap.size) w' g') (fun _ _ _=>False) fun bJ a' w' g' _ iU=>⟨g',iU.ks⟩
 unfold Oper.wp at hA hB
 generalize hr:(execOp a.eval o).run P w=r at hA hB
 cases r with
 | halt x w'=>cases x <;> exact hA.elim
 | ok n w'=>
  obtain ⟨v,rfl⟩:=hv hr
  obtain ⟨g',Lu⟩:∃ g',m7 w (g.frame [] w.heap.size) w' g':=hB
  refine ⟨⟨Lu.os,Lu.tape,Lu.output,Lu.size,fun b hb=>(Lu.block b hb (.inl ?_)).1⟩,hA⟩
  simp only [Gh.frame]
  split
  simp [hb]
  exact if_pos hb
theorem s3.PN {Q:St→Prop} {e:TypeId} {x:Operand} (ho:o.op= .buildSlice t 1 #[(0,x)]) (h9:∃ k,o.dst=some k∧k < 1000000) {tv:TV} {z:Nat} (hx:T.cH z st x=some (.one tv)) (hu:P.underlying t=some (.slice e)) {sz:Nat} (hs:j6 P e=some sz) 
  {zv:Value} (hz:(P.info? e).bind (·.zero)=some zv) (UP:Ap sz tv=true) (hsz:0 < sz) (X3:sz ≤ 16777216) (h:gJ P w0 g0 o st Q):s3 P w0 g0 o st Q:=fun a w g hR K hK=>by
 have hA:=h a w g hR K (fun _ _ _=>False) hK
 obtain ⟨k,_,hkp⟩:=h9
 obtain ⟨cells,g',hrun,_⟩:=hR.built (xs:=[x]) ho rfl rfl k hkp (z:=z) (dm:=[tv]) (by simp [T.zu,hx]) hu hs hz (by simp [UP]) hsz (by omega)
 unfold Oper.wp at hA
 rw [hrun] at hA ⊢
 refine ⟨⟨rfl,rfl,rfl, ?_,fun b hb=> ?_⟩,hA⟩
 show w.heap.size ≤ (w.heap.push _).size
 simp
 show (w.heap.push _)[b]? = w.heap[b]?
 rw [Array.getElem?_push,if_neg (by omega)]
theorem TU.opM {Q:St→Prop} (hne:ws.contains i=false) (uq:ops.toList.drop i=o :: tl) (hg:yes ops st o) 
  (h:∀ K:St→Prop,(∀ bJ,TU P w0 g0 ops ws bs s l bJ Q→K bJ)→s3 P w0 g0 o st K):TU P w0 g0 ops ws bs s ((i,1) :: l) st Q:=fun listed hs hc he a w g hR Q' hQ=>by
 have hi:=rz uq
 simp only [xk,bh,beq_iff_eq] at he
 have h1:=he.1
 have Ry:i ∈ Region.ready .any ops listed:=by rw [h1];exact o5.2 rfl
 refine ⟨fun h0=>(by rw [h1] at h0;cases h0),fun j hj=> ?_⟩
 rw [h1] at hj
 rw [o5.1 hj,if_neg (by rw [hne];decide)]
 unfold FZ
 simp only [hi,tT hg hR,if_true]
 exact h _ (fun _ h=>h) a w g hR _ fun bJ a' w' g' hq iU=>hq _ hs (hc.set Ry) he.2 a' w' g' iU Q' hQ
inductive As (st:St) (ks:List Nat):List Nat→Prop
 | nil:As st ks []
 | cons {x:Nat} {l:List Nat} {pl:Pl} {c:C} (h1:st.tmps[x]? = some (.one (.ptr pl))) (h2:st.cellAt pl=some c) (h3:st.g_ pl=true) (h4:ks.contains pl.k=false) (h:As st ks l):As st ks (x :: l)
theorem As.get {st:St} {l:List Nat} (h:As st ks l):∀ x ∈ l,∃ pl c,st.tmps[x]? = some (.one (.ptr pl))∧st.cellAt pl=some c∧st.g_ pl=true∧ks.contains pl.k=false:=by
 induction h with
 | nil=>intro x hx;cases hx
 | cons h1 h2 h3 h4 _ ih=>
  intro x hx
  rcases m8.1 hx with rfl|hx
  exact ⟨_,_,h1,h2,h3,h4⟩
  exact ih x hx
end
end
end Go.Proofs.YtdliggkohdnipaaGreat.T
