import Derived.Test.YtdliggkohdnipaaGreatTzoq
set_option linter.unusedVariables false
set_option linter.unusedSimpArgs false
namespace Go.Proofs.YtdliggkohdnipaaGreat.T
open Go
def Fi (k:Nat) (pl:Pl):Bool:=pl.k == k && !(pl.p.isEmpty && pl.q == 0)
def Ba (k:Nat) (pl:Pl):Bool:=pl.k == k
def St.yD (st:St) (k:Nat) (r:Rt):St:=⟨st.tmps.map (TS.kill (Fi k) (Ba k)),(st.renew [k] k r).roots⟩
def Vf (ds:List D):TS→Option (Nat×Nat×Nat)
 | .one (.c (.ref ⟨k,[],0⟩))=>some (k,0,ds.length)
 | .one (.cut ⟨k,[],0⟩ _ lo hi)=>some (k,lo,hi - lo)
 | _=>none
theorem J6 {sz:Nat}:∀ {ns:List D} {n:Nat},(∀ d ∈ ns,d.row.length=sz)→((ns.take n).flatMap dh)=(ns.flatMap dh).take (n * sz)
 | [],n,h=>by simp
 | d :: ns,0,h=>by simp
 | d :: ns,n + 1,h=>by
  have h0:(dh d).length=sz:=by simp [dh,h d uy]
  have ih:=J6 (ns:=ns) (n:=n) (fun d hd=>h d (xb _ hd))
  rw [List.take_succ_cons,List.flatMap_cons,List.flatMap_cons,ih,List.take_append,h0,fu (l:=dh d) (by rw [h0,Nat.succ_mul];omega),show (n + 1) * sz - sz=n * sz by rw [Nat.succ_mul];omega]
section
variable {P:Program} {w0:World} {g0:Gh} {st:St} {a:Act} {w w':World} {g g':Gh}
theorem Rel.rewrite (hR:Rel w0 g0 st a w g) {k sz lo n b off m c:Nat} (hkp:k < 1000000) {ds ns:List D} (h1:st.root k=some ⟨false,[.own (.sl sz ds)]⟩) (gz:g.cv k [] 0= .slice (some ⟨b,off,none⟩) m c)
  (hds:∀ d ∈ ds,iI d) (Z2:ns.length=n) (Vg:∀ d ∈ ns,d.row.length=sz) (oQ:∀ d ∈ ns,iI d) (hplain:∀ d ∈ ns,∀ c ∈ d.row,plain (kW c)=true) (hlo:lo + n ≤ ds.length):
  ∃ w' g',(storeCells ⟨b,off + lo * sz,none⟩ (ns.flatMap dh) 0).run P w= .ok () w'∧Rel w0 g0 (st.yD k ⟨false,[.own (.sl sz (ds.take lo ++ ns ++ ds.drop (lo + n)))]⟩) a w' g':=by
 have hO:Ow w g k [] 0 (.sl sz ds):=hR.rt.cell k _ h1 0 (.own (.sl sz ds)) rfl
 have hf:=o6 Vg
 cases hO with
 | nil _ _ _ hc=>rw [hc] at gz;cases gz
 | sl _ _ _ _ b' off' n' c' cs e hc hn hm hnc v7 ho hb hfit hrow had hcell hel=>
  rw [hc] at gz
  simp only [Value.slice.injEq,ea,Addr.mk.injEq] at gz
  obtain ⟨⟨rfl,rfl,_⟩,rfl,rfl⟩:=gz
  have hfl:(ns.flatMap dh).length=n * sz:=by rw [hf.1,Z2]
  have hroom:lo * sz + n * sz ≤ c' * sz:=by
   rw [← Nat.add_mul]
   exact Nat.mul_le_mul_right _ (by omega)
  have h63:∀ u ∈ ns.flatMap dh,u.oneCell'=true:=fun u hu=>by
   obtain ⟨d,hd,hu⟩:=List.mem_flatMap.1 hu
   obtain ⟨x,hx,rfl⟩:=j7.1 hu
   have:=hplain d hd x hx
   cases DE:kW x <;> first|rfl|(rw [DE] at this;cases this)
  have hst:=run_storeCells_at P b' (off' + lo * sz) e (ns.flatMap dh) 0 cs w hb (by rw [hfl];omega) h63
  simp only [Nat.add_zero] at hst
  refine ⟨_,{ g with cv:=fun k' p' q'=>if k'=k then (match p' with| [(0,i)]=>if lo ≤ i∧i < lo + n then (ns.flatMap dh).getD ((i - lo) * sz + q') undef else g.cv k p' q'|_=>g.cv k p' q') else g.cv k' p' q' },hst, ?_⟩
  generalize hg':({ g with cv:=fun k' p' q'=>if k'=k then (match p' with| [(0,i)]=>if lo ≤ i∧i < lo + n then (ns.flatMap dh).getD ((i - lo) * sz + q') undef else g.cv k p' q'|_=>g.cv k p' q') else g.cv k' p' q' }:Gh)=g'
  have qU:g'.o=g.o:=by rw [← hg']
  have LA:g'.ad=g.ad:=by rw [← hg']
  have hgcv:∀ k',k' ≠ k→g'.cv k'=g.cv k':=fun k' hk'=>by rw [← hg'];funext p' q';simp only [if_neg hk']
  have hgnil:∀ q',g'.cv k [] q'=g.cv k [] q':=fun q'=>by rw [← hg'];simp
  have hgel:∀ i j,g'.cv k [(0,i)] j=if lo ≤ i∧i < lo + n then (ns.flatMap dh).getD ((i - lo) * sz + j) undef else g.cv k [(0,i)] j:=fun i j=>by rw [← hg'];simp
  generalize Eh:w.setRow b' (cs.toList.take (off' + lo * sz) ++ ns.flatMap dh ++ cs.toList.drop (off' + lo * sz + (ns.flatMap dh).length)).toArray=w'
  have rW:w'.heap[b']? = some (.cells (cs.toList.take (off' + lo * sz) ++ ns.flatMap dh ++ cs.toList.drop (off' + lo * sz + (ns.flatMap dh).length)).toArray e (0,0)):=by rw [← Eh];exact setRow_heap w b' cs _ e _ hb
  have Ai:∀ b2,b2 ≠ b'→w'.heap[b2]? = w.heap[b2]? :=fun b2 iz=>by rw [← Eh];exact setRow_other w b' b2 _ iz
  have hsize:w'.heap.size=w.heap.size:=by rw [← Eh];simp [World.setRow]
  have hbr:(g.o b').gZ = some k:=by rw [ho];rfl
  have Vh:∀ t,w'.cell? ⟨b',t,none⟩=(cs.toList.take (off' + lo * sz) ++ ns.flatMap dh ++ cs.toList.drop (off' + lo * sz + (ns.flatMap dh).length))[t]? :=fun t=>by
   simp only [World.cell?]
   rw [rW]
   simp
  have JO:(cs.toList.take (off' + lo * sz)).length=off' + lo * sz:=by simp;omega
  have hold:∀ t,t < off' + lo * sz ∨ off' + lo * sz + n * sz ≤ t→w'.cell? ⟨b',t,none⟩=w.cell? ⟨b',t,none⟩:=fun t ht=>by
   rw [Vh]
   have h2:w.cell? ⟨b',t,none⟩=cs[t]? :=by simp [World.cell?,hb]
   rw [h2,rX]
   rcases ht with ht|ht
   rw [rZ (by omega),List.getElem?_take,if_pos ht]
   simp
   rw [nO (by omega),JO,nO (by omega),List.getElem?_drop,hfl]
   rw [show off' + lo * sz + n * sz + (t - (off' + lo * sz) - n * sz)=t by omega]
   simp
  have hnew:∀ t,t < n * sz→w'.cell? ⟨b',off' + lo * sz + t,none⟩=(ns.flatMap dh)[t]? :=fun t ht=>by
   rw [Vh,rX,nO (by omega),JO,rZ (by omega)]
   congr 1
   omega
  have hS:oN w g w' g' (fun k'=>([k]:List Nat).contains k'=false):=by
   refine ⟨fun b2 h2=>⟨by rw [qU];exact h2,Ai b2 (fun e2=>by subst e2;rw [ho] at h2;cases h2)⟩,fun k' hk' b2 h2=>⟨by rw [qU],Ai b2 (fun e2=>by subst e2;rw [hbr] at h2;simp only [ea] at h2;subst h2;simp at hk')⟩,fun k' _=>by rw [LA],fun k' hk'=>hgcv k' (fun e2=>by subst e2;simp at hk')⟩
  have hK:m7 w0 g0 w' g':=by
   have hk:=hR.ks
   refine ⟨by rw [← Eh];exact hk.os,by rw [← Eh];exact hk.tape,by rw [← Eh];exact hk.output,by rw [hsize];exact hk.size,fun b2 h2 h3=> ?_,fun b2 h2=>by rw [qU];exact hk.fresh b2 (by rw [← hsize];exact h2),fun b2 h2 h3=>by rw [qU] at h3;rw [hsize] at h2;exact hk.old b2 h2 h3,⟨fun q=> ?_,by rw [LA];exact hk.v8.2⟩,fun b2=>by rw [qU];exact hk.iS b2⟩
   have h4:=hk.block b2 h2 h3
   have h5:b2 ≠ b':=fun e2=>by
    subst e2
    rw [ho] at h4
    rw [← h4.2] at h3
    rcases h3 with h3|h3 <;> cases h3
   rw [Ai b2 h5,qU]
   exact h4
   rw [hgcv cu (by simp only [cu];omega)]
   exact hk.v8.1 q
  have hlen2:(ds.take lo ++ ns ++ ds.drop (lo + n)).length=n':=by simp;omega
  have PM:∀ i d,(ds.take lo ++ ns ++ ds.drop (lo + n))[i]? = some d→(lo ≤ i∧i < lo + n∧ns[i - lo]? = some d) ∨ ((i < lo ∨ lo + n ≤ i)∧ds[i]? = some d):=fun i d hd=>by
   have htl2:(ds.take lo).length=lo:=by simp;omega
   by_cases h2:i < lo
   rw [rX,rZ (by omega),List.getElem?_take,if_pos h2] at hd
   exact .inr ⟨.inl h2,hd⟩
   by_cases h3:i < lo + n
   rw [rX,nO (by omega),htl2,rZ (by omega)] at hd
   exact .inl ⟨by omega,h3,hd⟩
   rw [rX,nO (by omega),htl2,nO (by omega),List.getElem?_drop,Z2,show lo + n + (i - lo - n)=i by omega] at hd
   exact .inr ⟨.inr (by omega),hd⟩
  have hinto:∀ {i j:Nat},lo ≤ i→i < lo + n→j < sz→(i - lo) * sz + j < n * sz:=fun h2 h3 h4=>Lo (by omega) h4
  have XN:Ow w' g' k [] 0 (.sl sz (ds.take lo ++ ns ++ ds.drop (lo + n))):=by
   refine .sl [] 0 sz _ b' off' n' c' _ e (by rw [hgnil];exact hc) hlen2 hm hnc v7 (by rw [qU];exact ho) rW ?_ (fun d hd=> ?_) (fun i hi=>by rw [LA];exact had i hi) (fun i j hi hj=> ?_) (fun i d hd j c2 hj=> ?_)
   simp only [List.size_toArray,o4,e_,List.length_drop,Array.length_toList]
   omega
   simp only [xa] at hd
   rcases hd with (hd|hd)|hd
   exact hrow d (List.mem_of_mem_take hd)
   exact Vg d hd
   exact hrow d (List.mem_of_mem_drop hd)
   simp only [List.nil_append]
   rw [hgel]
   by_cases h2:lo ≤ i∧i < lo + n
   rw [if_pos h2]
   have h3:=hinto h2.1 h2.2 hj
   have h4:off' + i * sz + j=off' + lo * sz + ((i - lo) * sz + j):=by
    have:i * sz=lo * sz + (i - lo) * sz:=by rw [← Nat.add_mul];congr 1;omega
    omega
   rw [h4,hnew _ h3,List.getD,bg (by rw [hfl];exact h3)]
   simp
   rw [if_neg h2]
   have h3:=hcell i j hi hj
   simp only [List.nil_append] at h3
   rw [hold _ ?_,h3]
   by_cases h4:i < lo
   left
   have:(i + 1) * sz ≤ lo * sz:=Nat.mul_le_mul_right _ h4
   rw [Nat.add_mul] at this
   omega
   right
   have:(lo + n) * sz ≤ i * sz:=Nat.mul_le_mul_right _ (by omega)
   rw [Nat.add_mul] at this
   omega
   simp only [List.nil_append]
   rcases PM i d hd with ⟨h2,h3,h4⟩|⟨h2,h4⟩
   have hjl:j < sz:=by rw [← Vg d (aH h4)];exact (aM.1 hj).1
   obtain ⟨x,rfl⟩:=oQ d (aH h4) c2 (aH hj)
   have h5:=hplain d (aH h4) _ (aH hj)
   refine .v _ _ x h5 ?_
   rw [hgel,if_pos ⟨h2,h3⟩,List.getD,hf.2 _ d h4 j _ hj]
   rfl
   have h5:=hel i d h4 j c2 hj
   obtain ⟨x,rfl⟩:=hds d (aH h4) c2 (aH hj)
   simp only [List.nil_append] at h5
   cases h5 with
   | v _ _ _ hp hx=>
    refine .v _ _ x hp ?_
    rw [hgel,if_neg (by omega)]
    exact hx
  have XK:=hR.renew (k:=k) (r:=⟨false,[.own (.sl sz (ds.take lo ++ ns ++ ds.drop (lo + n)))]⟩) (kl:=[k]) (by simp) hS hK (fun q c2 hq=>by
   cases q with
   | zero=>
    simp only [List.getElem?_cons_zero,ea] at hq
    subst hq
    exact XN
   | succ q=>simp at hq) rfl
  refine hR.change (bJ:=st.yD k _) (pr:=Fi k) (pp:=Ba k) ⟨hS.ro,fun pl hp=> ?_,fun pl hp=>by rw [LA]⟩ rfl XK.rt hK
  by_cases h2:pl.k=k
  simp only [Fi,h2,BEq.rfl,jr,Bool.not_eq_false',bh,List.isEmpty_iff,beq_iff_eq] at hp
  rw [h2,hp.1]
  exact hgnil _
  rw [hgcv _ h2]
variable {o:Oper} {Q:St→Prop} {x y:Operand} {t t2 e:TypeId}
theorem uC.firstN {v:Value} {sz m n:Nat} {news:List Value} (h:uC w v sz m news) (hn:n ≤ m) (h0:0 < n):(Builtin.firstCells sz n v).run P w= .ok (news.take (n * sz)).toArray w:=by
 rcases h.2 with ⟨ad,c,rfl,rfl⟩|⟨b,off,c,rfl,hc⟩
 omega
 have hle:n * sz ≤ m * sz:=Nat.mul_le_mul_right _ hn
 exact run_firstCells_some (P:=P) w sz n ⟨b,off,none⟩ m c _ (by rw [e_,h.1];omega) (fun j u hu=>by
  rw [List.getElem?_take] at hu
  split at hu
  rw [Addr.add_lit];exact hc j u hu
  cases hu)
theorem gJ.copy (ho:o.op= .call { callee:= .builtin .copy,args:= #[x,y],argTypes:= #[t,t2] }) {td tv:TS} {k lo len sz:Nat} {ds ns:List D} (hx:T.cH 0 st x=some td) (hy:T.cH 0 st y=some tv)
  (h1:st.root k=some ⟨false,[.own (.sl sz ds)]⟩) (Li:Vf ds td=some (k,lo,len)) (hsz:∀ pl z i j,td= .one (.cut pl z i j)→z=sz) (h2:mT st tv=some (sz,ns)) (hds:∀ d ∈ ds,iI d) (oQ:∀ d ∈ ns,iI d)
  (ht:P.underlying t=some (.slice e)) (hs:j6 P e=some sz) {n:Nat} (hn:n=Nat.min ns.length len) (h0:0 < n) (hkp:k < 1000000)
  (hq:Q ((st.yD k ⟨false,[.own (.sl sz (ds.take lo ++ ns.take n ++ ds.drop (lo + n)))]⟩).put o.dst (I n))):gJ P w0 g0 o st Q:=fun a w g hR K Q' hK=>by
 have hnn:n ≤ ns.length:=by rw [hn];exact Nat.min_le_left _ _
 have Z2:n ≤ len:=by rw [hn];exact Nat.min_le_right _ _
 have hsrc:=hR.CD h2 oQ (hR.cH hy)
 have hO:Ow w g k [] 0 (.sl sz ds):=hR.rt.cell k _ h1 0 (.own (.sl sz ds)) rfl
 have hxv:∃ b off m c cap,g.cv k [] 0= .slice (some ⟨b,off,none⟩) m c∧a.eval x= .slice (some ⟨b,off + lo * sz,none⟩) len cap∧lo + len ≤ ds.length:=by
  have hv:=hR.cH hx
  generalize a.eval x=v at hv
  unfold Vf at Li
  split at Li
  simp only [ea,Prod.mk.injEq] at Li
  obtain ⟨rfl,rfl,rfl⟩:=Li
  cases hv with
  | one _ _ h=>
   cases h with
   | c _ _ h=>
    have h3:=h.1
    simp only at h3
    rcases hO.dst with ⟨_,h5,_⟩|⟨b,off,c,cs,e0,h5,_⟩
    omega
    exact ⟨b,off,_,c,c,h5,by rw [h3,h5,Nat.zero_mul,Nat.add_zero],by omega⟩
  rename_i z i j
  simp only [ea,Prod.mk.injEq] at Li
  obtain ⟨rfl,rfl,rfl⟩:=Li
  have h3:=hsz _ _ _ _ rfl
  subst h3
  cases hv with
  | one _ _ h=>
   cases h with
   | cut _ _ _ _ b off n c gz h5 h6 h7=>
    refine ⟨b,off,n,c,c - i,gz,rfl, ?_⟩
    cases hO with
    | nil _ _ _ DC=>rw [DC] at gz;cases gz
    | sl _ _ _ _ b' off' n' c' cs ty Uz hn hm hnc v7 ho' hb hfit hrow had hcell hel=>
     rw [Uz] at gz
     simp only [Value.slice.injEq] at gz
     omega
  cases Li
 obtain ⟨b,off,m,c,cap,gz,hxe,hlo⟩:=hxv
 obtain ⟨w',g',hrun,iU⟩:=hR.rewrite (P:=P) (lo:=lo) (n:=n) (ns:=ns.take n) hkp h1 gz hds (by simp;omega) (fun d hd=>hsrc.2.1 d (List.mem_of_mem_take hd)) (fun d hd=>oQ d (List.mem_of_mem_take hd)) (fun d hd=>hsrc.2.2 d (List.mem_of_mem_take hd)) (by omega)
 rw [J6 hsrc.2.1] at hrun
 have hfirst:=hsrc.1.firstN (P:=P) hnn h0
 have hlenof:=hsrc.1.len (P:=P) w
 have Nq:(execOp a.eval o).run P w= .ok (.value (.int .i64 n)) w':=by
  simp [execOp,ho,resolve,invoke,builtin,hxe,Builtin.copy_,run_underlying ht,hlenof,c9 hs, ← hn,hfirst,hrun,goInt]
 unfold Oper.wp
 rw [Nq]
 exact hK _ _ _ g' hq (iU.put (Aj rfl) o.dst)
end
section
variable {c:C} {k:Nat} {bJ:St}
def St.om (st:St) (pl:Pl) (c:C):Option St:=match c with
 | .ref s=>if pl.p.isEmpty && !ez pl.k pl.p pl.q s then (match st.root pl.k with
  | some r=>(setRow (r.row.map (C.kill (ez pl.k pl.p pl.q))) pl.p pl.q (.ref s)).map fun row'=>st.wrote pl.k pl.p pl.q r.mem row' none
  | none=>none) else none
 | c=>st.d_ pl c
section
variable {P:Program} {w0:World} {g0:Gh} {st:St} {a:Act} {w:World} {g:Gh}
theorem Rel.om (hR:Rel w0 g0 st a w g) {pl:Pl} {c c0:C} {bJ:St} {u:Value} (hc0:st.cellAt pl=some c0) (hm:st.g_ pl=true) (hs:st.om pl c=some bJ) (hu:gC w g c u):
  ∃ g',Rel w0 g0 bJ a (w.setCell (bw (g.ad pl.k pl.p) pl.q) u) g'∧qo w g (w.setCell (bw (g.ad pl.k pl.p) pl.q) u) g' (ez pl.k pl.p pl.q) (wY pl.k pl.p pl.q)∧
   g'.ad pl.k pl.p=g.ad pl.k pl.p:=by
 cases c with
 | ro d=>exact hR.d_ hc0 hm (show st.d_ pl (.ro d)=some bJ from hs) hu
 | own d=>exact hu.elim
 | dead=>exact hR.d_ hc0 hm (show st.d_ pl .dead=some bJ from hs) hu
 | ref s=>
  obtain ⟨k,p,q⟩:=pl
  have h1:=hR.cellAt hc0
  have hcell:=h1.2.2.1 hm
  have PE:=(h1.2.2.2 hm).1
  have hw:Wr w (w.setCell (bw (g.ad k p) q) u) (g.ad k p).1 ((g.ad k p).2 + q) u:=Wr.FT hcell
  have hadp:∀ g',wX w g (w.setCell (bw (g.ad k p) q) u) g' k p q (g.ad k p).1 ((g.ad k p).2 + q) u (fun _=>False)→g'.ad k p=g.ad k p:=fun g' he=>he.ad k p (fun ⟨_,i,r,hx⟩=>by
   have:=congrArg List.length hx
   simp only [o4,List.length_cons] at this
   omega)
  simp only [St.om] at hs
  split at hs
  rename_i Be
  simp only [bh,Bool.not_eq_true'] at Be
  obtain ⟨hp,hh⟩:=Be
  have I0:p=[]:=List.isEmpty_iff.1 hp
  subst I0
  split at hs
  rename_i r hr
  rw [iX] at hs
  obtain ⟨row',iT,rfl⟩:=hs
  have hE:=wX.ZZ (g:=g) (k:=k) (p:=[]) (q:=q) hw rfl PE
  have s4:JK (w.setCell (bw (g.ad k []) q) u) (g.wr k [] q u) k [] q (.ref s):=by
   refine ⟨rfl, ?_⟩
   show (g.wr k [] q u).cv k [] q=(g.wr k [] q u).cv s.k s.p s.q∧((g.wr k [] q u).cv k [] q).oneCell'=true
   have h2:u=g.cv s.k s.p s.q∧u.oneCell'=true:=hu
   rw [hE.new,hE.cv _ _ _ (Bd hh)]
   exact h2
  exact ⟨g.wr k [] q u,hR.write hE (fun _ h=>h) rfl rfl rfl (by simp) hr iT s4,hE.Nh,hadp _ hE⟩
  cases hs
  cases hs
theorem I8 {pl:Pl} (h:st.om pl c=some bJ):c ≠ .dead:=by
 intro e
 subst e
 exact ry (show st.d_ pl .dead=some bJ from h) rfl
def St.iP (k:Nat):List C→(C→C)→Nat→St→Option St
 | [],_,_,st=>some st
 | c :: cs,f,q,st=>
  match st.cellAt ⟨k,[],q⟩ with
  | some _=>
   match st.om ⟨k,[],q⟩ (f c) with
   | some bJ=>St.iP k cs (fun c=>(f c).kill (ez k [] q)) (q + 1) bJ
   | none=>none
  | none=>none
theorem LB {q q':Nat} (hs:st.om ⟨k,[],q⟩ c=some bJ) (hm:st.g_ ⟨k,[],q⟩=true):bJ.g_ ⟨k,[],q'⟩=true:=by
 cases c with
 | ro d=>exact s8 (show st.d_ _ (.ro d)=some bJ from hs) hm
 | own d=>exact s8 (show st.d_ _ (.own d)=some bJ from hs) hm
 | dead=>exact s8 (show st.d_ _ .dead=some bJ from hs) hm
 | ref s=>
  simp only [St.om] at hs
  split at hs
  split at hs
  rename_i r hr
  rw [iX] at hs
  obtain ⟨row',_,rfl⟩:=hs
  simp only [St.g_] at hm ⊢
  rw [hr] at hm
  have hm:r.mem=true:=hm
  rw [St.nx]
  simp [hm]
  cases hs
  cases hs
theorem Rel.iP {k:Nat}:∀ {cs:List C} {us:List Value} {f:C→C} {q:Nat} {st bJ:St} {w:World} {g:Gh} (hR:Rel w0 g0 st a w g),cs.length=us.length→
  (∀ (j:Nat) c u,cs[j]? = some c→us[j]? = some u→gC w g (f c) u)→(cs ≠ []→st.g_ ⟨k,[],q⟩=true)→St.iP k cs f q st=some bJ→
  ∃ w' g',(∀ A,bw (g.ad k []) q=A→∀ i PF,PF.add i=A→(storeCells PF us i).run P w= .ok () w')∧Rel w0 g0 bJ a w' g'
 | [],[],f,q,st,bJ,w,g,hR,_,_,_,hs=>by
  simp only [St.iP,ea] at hs
  subst hs
  exact ⟨w,g,fun A hA i PF hi=>rfl,hR⟩
 | c :: cs,u :: us,f,q,st,bJ,w,g,hR,hl,hu,hm,hs=>by
  simp only [St.iP] at hs
  have hm:=hm (by simp)
  split at hs
  rename_i c0 hc0
  split at hs
  rename_i Um hs1
  have hu0:=hu 0 c u rfl rfl
  obtain ⟨g1,XK,Z1,had⟩:=hR.om hc0 hm hs1 hu0
  have s4:=hR.cellAt hc0
  have hrun:=oh (P:=P) (u:=u) (hu0.one (I8 hs1)) (s4.2.2.1 hm) (s4.2.2.2 hm).2.choose_spec.choose_spec
  obtain ⟨w',g',hr',iU⟩:=Rel.iP (cs:=cs) (us:=us) (f:=fun c=>(f c).kill (ez k [] q)) XK (by simpa using hl) (fun j c' u' hj hj'=>
   (hu (j + 1) c' u' (by simpa using hj) (by simpa using hj')).kill Z1) (fun _=>LB hs1 hm) hs
  refine ⟨w',g',fun A hA i PF hi=> ?_,iU⟩
  have h2:=hr' (bw (g.ad k []) (q + 1)) (by rw [had]) (i + 1) PF (by
   have:PF.add (i + 1)=(PF.add i).add 1:=by
    by_cases h:i=0
    subst h
    simp [Addr.add]
    simp [Addr.add,h,Nat.add_assoc]
   rw [this,hi, ← hA,uw])
  simp only [storeCells,Sem.run_bind,hi, ← hA]
  rw [hrun]
  exact h2
  cases hs
  cases hs
theorem gJ.Th {o:Oper} {Q:St→Prop} {x y:Operand} {t:TypeId} (ho:o.op= .store t x y) {pl:Pl} (hp:pl.p=[]) {cs:List C} {bJ:St} (hx:T.cH 0 st x=some (.one (.ptr pl))) (hy:T.cH 0 st y=some (.one (.agg cs))) {n:Nat} (ht:j6 P t=some n)
  (hn:cs.length=n) (hm:st.g_ pl=true) (hs:St.iP pl.k cs id pl.q st=some bJ) (hq:Q (bJ.put o.dst (.one .dead))):gJ P w0 g0 o st Q:=fun a w g hR K Q' hK=>by
 obtain ⟨pk,pp,pq⟩:=pl
 have hp:pp=[]:=hp
 subst hp
 have h1:=hR.cH hx
 have h2:=hR.cH hy
 generalize UH:a.eval x=vx at h1
 generalize hvy:a.eval y=vy at h2
 cases h1 with
 | one _ _ h1=>
  cases h1 with
  | ptr _=>
   cases h2 with
   | one _ _ h2=>
    cases h2 with
    | agg _ us hsz h2=>
     obtain ⟨w',g',hr,iU⟩:=Rel.iP (P:=P) (us:=us.toList) hR (by simpa using hsz.symm) (fun j c u hj hj'=>h2 j c u hj (by simpa using hj')) (fun _=>hm) hs
     have hrun:=hr _ rfl 0 _ (Addr.add_zero' _)
     unfold Oper.wp
     have hx':(execOp a.eval o).run P w= .ok .skip w':=by
      simp [execOp,ho,UH,hvy,Instr.storeAt,Instr.sureAddr,storeVar,Value.cells,c9 ht,hrun,hsz,hn]
     rw [hx']
     exact hK _ _ _ _ hq (iU.put (.one _ _ (.dead _)) o.dst)
theorem Rel.revive (hR:Rel w0 g0 st a w g) {m:Bool} {row row':List C} (hk:st.root k=some ⟨m,row⟩) (hl:row'.length=row.length) (h:∀ (q:Nat) c',row'[q]? = some c'→row[q]? = some c' ∨ m6 w g k q c'):Rel w0 g0 (st.cw k ⟨m,row'⟩) a w g:=by
 refine ⟨hR.tm,hR.sz,hR.df,⟨fun k' r hk' q c hq=> ?_,fun k' r hk' hm=> ?_⟩,hR.ks⟩
 rw [St.dA] at hk'
 split at hk'
 rename_i e
 subst e
 simp only [ea] at hk'
 subst hk'
 rcases h q c hq with h1|h1
 exact hR.rt.cell _ _ hk q c h1
 exact h1
 exact hR.rt.cell k' r hk' q c hq
 rw [St.dA] at hk'
 split at hk'
 rename_i e
 subst e
 simp only [ea] at hk'
 subst hk'
 obtain ⟨m1,m2,m3⟩:=hR.rt.mem _ _ hk hm
 exact ⟨m1,m2,fun q hq=>m3 q (by show q < row.length;rw [← hl];exact hq)⟩
 exact hR.rt.mem k' r hk' hm
end
def kZ (P:Program) (f:FuncId) (row:List D) (wy:List (Nat×Nat)) (qs:List Nat) (pts:List TS) (R:nQ→Prop):Prop:=
 ∀ (w:World) (g:Gh) (args:Array Value) (k:Nat),k < 1000000→Handed w g ⟨false,row⟩→(∀ q ∈ qs,(g.cv cu wy q).oneCell'=true)→args.size=pts.length→(∀ (i:Nat) t u,pts[i]? = some t→args[i]? = some u→dN w g t u)→
  Calls P f args w fun e w'=>∃ v row' r g',e= .returned v∧(row'=row.map (fun _=> .hole)∧R r)∧ol w g ⟨false,row⟩ k row' r v w' g'∧∀ q ∈ qs,g'.cv k wy q=g.cv cu wy q
def Vi (P:Program) (fn:Func) (n:Nat) (wy:List (Nat×Nat)) (qs:List Nat) (R:nQ→Prop) (e:Exit) (st:St):Prop:=
 (e= .normal ∨ e= .ret)∧∃ (w6:List ResultVar) (dm:List TV) (row:List D),fn.results=w6.toArray∧w6.length ≤ 4∧w6.map (uA P st)=dm.map some∧
  (dm.flatMap fR).Nodup∧iE st (dm.flatMap fR)=some row∧R ⟨row,fun k=>oO (dm.map (jo (dm.flatMap fR) k))⟩∧
  ∃ (jw i:Nat) (r:List (Nat×Nat)) (b q1:Nat) (rK:Rt),wy=(jw,i) :: r∧(dm.flatMap fR)[jw]? = some (b,q1)∧st.root cu=some rK∧∀ (j q:Nat),qs[j]? = some q→rK.row[n + j]? = some (.ref ⟨b,(q1,i) :: r,q⟩)
section
variable {P:Program} {w0:World} {g0:Gh} {st:St} {a:Act} {w w':World} {g:Gh}
theorem kZ.of {f:FuncId} {fn:Func} {c:Code} {row:List D} {x:Nat×Nat} {r0:List (Nat×Nat)} {qs:List Nat} {pts:List TS} {R:nQ→Prop} (hf:P.funcs[f]? = some fn) (hb:fn.body=some c) (hn:pts.length ≤ fn.ntmps)
  (hp:pts.map (TS.kill (fun pl=>Nat.beq pl.k cu && (pl.p.isEmpty && Nat.ble row.length pl.q)) fun _=>false)=pts)
  (hw:∀ w g0,TC P w g0 c ⟨pts ++ List.replicate (fn.ntmps - pts.length) (.one .dead),[(cu,⟨false,row.map C.own ++ qs.map fun q=>C.ref ⟨cu,x :: r0,q⟩⟩)]⟩ (Vi P fn row.length (x :: r0) qs R)):kZ P f row (x :: r0) qs pts R:=by
 intro w g args k hk hH hone hsz hargs
 generalize CJ:({ o:=g.o,ad:=g.ad,cv:=fun k p q=>if k=cu then (match p with| []=>if row.length ≤ q then (match qs[q - row.length]? with|some q'=>g.cv cu (x :: r0) q'|none=>g.cv k p q) else g.cv k p q|_=>g.cv k p q) else g.cv k p q }:Gh)=gg
 have ho:gg.o=g.o:=by subst CJ;rfl
 have had:gg.ad=g.ad:=by subst CJ;rfl
 have hcvd:∀ k' y p q,gg.cv k' (y :: p) q=g.cv k' (y :: p) q:=fun k' y p q=>by subst CJ;simp only;split <;> rfl
 have hcvn:∀ k' p q,k' ≠ cu→gg.cv k' p q=g.cv k' p q:=fun k' p q h=>by subst CJ;simp only [if_neg h]
 have hcvl:∀ q,q < row.length→gg.cv cu [] q=g.cv cu [] q:=fun q h=>by subst CJ;simp only [if_true,if_neg (Nat.not_le.2 h)]
 have hcvp:∀ (j q:Nat),qs[j]? = some q→gg.cv cu [] (row.length + j)=g.cv cu (x :: r0) q:=fun j q h=>by
  subst CJ
  simp only [if_true,if_pos (Nat.le_add_right _ _),Nat.add_sub_cancel_left,h]
 have hA:qo w g w gg (fun pl=>Nat.beq pl.k cu && (pl.p.isEmpty && Nat.ble row.length pl.q)) fun _=>false:=by
  refine ⟨fun b hb=>⟨by rw [ho];exact hb,rfl⟩,fun pl h=> ?_,fun pl _=>by rw [had]⟩
  obtain ⟨pk,pp,pq⟩:=pl
  by_cases h1:pk=cu
  subst h1
  cases pp with
  | cons y p=>exact hcvd _ _ _ _
  | nil=>
   refine hcvl pq ?_
   simp only [List.isEmpty_nil,jr,Bool.and_eq_false_iff] at h
   rcases h with h|h
   simp at h
   exact Nat.lt_of_not_le fun h2=>by rw [Nat.ble_eq_true_of_le h2] at h;cases h
  exact hcvn _ _ _ h1
 have Ur:Handed w gg ⟨false,row⟩:=by
  refine ⟨fun b hb=>by rw [ho];exact hH.out b hb,fun b hb=>by rw [ho];exact hH.own b hb,fun b=>by rw [ho];exact hH.iS b,fun q d hq=> ?_,fun hm=>(by cases hm)⟩
  have hql:q < row.length:=(aM.1 hq).1
  exact Ow.move (hH.row q d hq) ⟨hcvl q hql,fun i r q'=>hcvd _ _ _ _,fun i r=>by rw [had],fun b hb=>⟨by rw [ho];exact hb,rfl⟩,fun b i r q' hb=>⟨by rw [ho];exact hb,rfl⟩⟩
 have gT:∀ k' r,(⟨pts ++ List.replicate (fn.ntmps - pts.length) (.one .dead),[(cu,⟨false,row.map C.own ++ qs.map fun q=>C.ref ⟨cu,x :: r0,q⟩⟩)]⟩:St).root k'=some r→k'=cu∧r=⟨false,row.map C.own ++ qs.map fun q=>C.ref ⟨cu,x :: r0,q⟩⟩:=fun k' r hr=>by
  simp only [St.root,List.find?_cons,List.find?_nil] at hr
  split at hr
  rename_i e
  simp only [Option.map_some,ea] at hr
  exact ⟨(by simpa using e:cu=k').symm,hr.symm⟩
  cases hr
 have PV:∀ (i:Nat) t u,pts[i]? = some t→args[i]? = some u→dN w gg t u:=fun i t u hi hu=>by
  have h1:=(hargs i t u hi hu).kill hA
  have h2:=congrArg (fun l:List TS=>l[i]?) hp
  simp only [ec,hi,Option.map_some,ea] at h2
  rw [h2] at h1
  exact h1
 refine calls_of_wp hf hb (wp_mono (hw w gg _ w gg ⟨fun i tv hi=> ?_, ?_,rfl,⟨fun k' r hk' q c hq=> ?_,fun k' r hk' hm=> ?_⟩,⟨rfl,rfl,rfl,gL _,fun b hb _=>⟨rfl,rfl⟩,fun b hb=>Ur.out b hb,fun b hb ho=> ?_,⟨fun _=>rfl,rfl⟩,Ur.iS⟩⟩) fun e a w' ⟨st,g',hE,hR⟩=> ?_)
 by_cases hlt:i < pts.length
 rw [rZ hlt] at hi
 have hi':i < args.size:=by omega
 have h1:(args ++ Array.replicate (fn.ntmps - args.size) undef).getD i undef=args[i]:=by
  rw [Array.getD_eq_getD_getElem?,Array.getElem?_append_left hi',rY hi']
  rfl
 show dN w gg tv ((args ++ Array.replicate (fn.ntmps - args.size) undef).getD i undef)
 rw [h1]
 exact PV i tv _ hi (rY hi')
 rw [nO (by omega),List.getElem?_replicate] at hi
 split at hi
 simp only [ea] at hi
 subst hi
 exact .one _ _ (.dead _)
 cases hi
 show (args ++ Array.replicate (fn.ntmps - args.size) undef).size=_
 simp [hsz]
 obtain ⟨rfl,rfl⟩:=gT k' r hk'
 by_cases hlt:q < row.length
 have hq:(row.map C.own ++ qs.map fun q=>C.ref ⟨cu,x :: r0,q⟩)[q]? = some c:=hq
 rw [rZ (by simpa using hlt),ec,iX] at hq
 obtain ⟨d,hqd,rfl⟩:=hq
 exact Ur.row q d hqd
 have hq:(row.map C.own ++ qs.map fun q=>C.ref ⟨cu,x :: r0,q⟩)[q]? = some c:=hq
 rw [nO (by simp;omega),aI,ec,iX] at hq
 obtain ⟨q',Fc,rfl⟩:=hq
 have h1:=hcvp _ _ Fc
 rw [Nat.add_sub_cancel' (Nat.le_of_not_lt hlt)] at h1
 show gg.cv cu [] q=gg.cv cu (x :: r0) q'∧(gg.cv cu [] q).oneCell'=true
 rw [h1,hcvd]
 exact ⟨rfl,hone q' (aH Fc)⟩
 obtain ⟨rfl,rfl⟩:=gT k' r hk'
 cases hm
 rcases Ur.own b hb with h1|h1
 rw [h1] at ho;cases ho
 rw [ho] at h1;cases h1
 obtain ⟨he,w6,dm,Ej,h1,h2,h3,h4,h5,h9,jw,i,r,b,q1,rK,hwy,hsw,hrK,hrc⟩:=hE
 have CI:k ≠ cu:=by simp only [cu];omega
 have hlen:w6.length=dm.length:=by
  have:=congrArg List.length h3
  simpa using this
 obtain ⟨us,Rp,Rq,uB⟩:=hR.resultList h3
 have hrun:=qq (P:=P) h1 h2 a.tmps w' Rp Rq
 have zq:∀ (i:Nat) t u,dm[i]? = some t→us[i]? = some u→eV w' (g'.eB (dm.flatMap fR) k cu) (jo (dm.flatMap fR) k t) u:=fun i t u hi hu=>F6 CI (uB i t u hi hu)
 have hval:dN w' (g'.eB (dm.flatMap fR) k cu) (oO (dm.map (jo (dm.flatMap fR) k))) (Eg us):=by
  have Ln:∀ l:List Value,l.length=dm.length→(∀ (i:Nat) t u,dm[i]? = some t→l[i]? = some u→eV w' (g'.eB (dm.flatMap fR) k cu) (jo (dm.flatMap fR) k t) u)→
    dN w' (g'.eB (dm.flatMap fR) k cu) (.mj (dm.map (jo (dm.flatMap fR) k))) (.tuple l.toArray):=fun l hl hh=>
   .mj _ _ (by simp [hl]) fun j t u hj hu=>by
    rw [ec,iX] at hj
    obtain ⟨t',hj,rfl⟩:=hj
    exact hh j t' u hj (by simpa using hu)
  have hl:=Ln us (by omega) zq
  have X1:us.length=dm.length:=by omega
  clear hrun Rq uB h3 h5 h9 h4 hsw
  match us,dm,X1 with
  | [],[],_=>exact hl
  | [t],[tv],_=>exact .one _ _ (zq 0 tv _ rfl rfl)
  | _ :: _ :: _,_ :: _ :: _,_=>exact hl
 have hG:=hR.Ve (h:=⟨false,row⟩) Ur rfl h4 h5 hk (T:=fun k=>oO (dm.map (jo (dm.flatMap fR) k))) hval
 have hG2:ol w g ⟨false,row⟩ k (row.map fun _=> .hole) ⟨Ej,fun k=>oO (dm.map (jo (dm.flatMap fR) k))⟩ (Eg us) w' (g'.eB (dm.flatMap fR) k cu):=by
  refine ⟨hG.os,hG.tape,hG.output,hG.size,fun b hb hx=>hG.block b hb (by rw [ho];exact hx),fun b hb hx=>hG.own b hb (by rw [ho];exact hx),fun b hx=>by rw [← ho];exact hG.old b hx,hG.row,hG.hlen,hG.hrow,fun hm q hq=> ?_,fun hm=>(by cases hm),hG.val⟩
  rw [← hcvl q hq]
  exact hG.pinl hm q hq
 have hkeep:∀ q ∈ qs,(g'.eB (dm.flatMap fR) k cu).cv k (x :: r0) q=g.cv cu (x :: r0) q:=fun q hq=>by
  obtain ⟨j,hj⟩:=List.mem_iff_getElem?.1 hq
  have hc:=hrc j q hj
  have h6:g'.cv cu [] (row.length + j)=g'.cv b ((q1,i) :: r) q:=(hR.rt.cell cu rK hrK _ _ hc).1
  have h7:g'.cv cu [] (row.length + j)=gg.cv cu [] (row.length + j):=hR.ks.v8.1 _
  rw [hwy]
  simp only [Gh.eB,if_neg CI,hsw]
  rw [← h6,h7,hcvp j q hj,hwy]
 have xd:∃ v,(results fn a.tmps).run P w'= .ok v w'∧∃ v_1 F7 r g',Ending.returned v=Ending.returned v_1∧(F7=row.map (fun _=> .hole)∧R r)∧ol w g ⟨false,row⟩ k F7 r v_1 w' g'∧∀ q ∈ qs,g'.cv k (x :: r0) q=g.cv cu (x :: r0) q:=⟨_,hrun,_,_,_,_,rfl,⟨rfl,h9⟩,hG2,hkeep⟩
 rcases he with rfl|rfl
 exact ⟨hR.df,xd⟩
 exact ⟨hR.df,xd⟩
end
end
end Go.Proofs.YtdliggkohdnipaaGreat.T
