import Derived.Test.YtdliggkohdnipaaGreatTzor
set_option linter.unusedVariables false
set_option linter.unusedSimpArgs false
namespace Go.Proofs.YtdliggkohdnipaaGreat.T
open Go
def DJ (k:Nat) (pl:Pl):Bool:=pl.k == k && !(pl.p.isEmpty && pl.q == 0)
def zG (k:Nat) (pl:Pl):Bool:=pl.k == k
def St.wH (st:St) (k:Nat) (r:Rt):St:=⟨st.tmps.map (TS.kill (DJ k) (zG k)),(st.renew [k] k r).roots⟩
def Tl (ds:List D):TS→Option (Nat×Nat×Nat)
 | .one (.c (.ref ⟨k,[],0⟩))=>some (k,0,ds.length)
 | .one (.cut ⟨k,[],0⟩ _ lo hi)=>some (k,lo,hi - lo)
 | _=>none
theorem Iv {sz:Nat}:∀ {ns:List D} {n:Nat},(∀ d ∈ ns,d.row.length=sz)→((ns.take n).flatMap cX)=(ns.flatMap cX).take (n * sz)
 | [],n,h=>by simp
 | d :: ns,0,h=>by simp
 | d :: ns,n + 1,h=>by
  have h0:(cX d).length=sz:=by simp [cX,h d List.mem_cons_self]
  have ih:=Iv (ns:=ns) (n:=n) (fun d hd=>h d (List.mem_cons_of_mem _ hd))
  rw [List.take_succ_cons,List.flatMap_cons,List.flatMap_cons,ih,List.take_append,h0,List.take_of_length_le (l:=cX d) (by rw [h0,Nat.succ_mul];omega),show (n + 1) * sz - sz=n * sz by rw [Nat.succ_mul];omega]
section
variable {P:Program} {w0:World} {g0:Gh} {st:St} {a:Act} {w w':World} {g g':Gh}
theorem Rel.rewrite (hR:Rel w0 g0 st a w g) {k sz lo n b off m c:Nat} (hkp:k < 1000000) {ds ns:List D} (h1:st.root k=some ⟨false,[.own (.sl sz ds)]⟩) (fL:g.cv k [] 0= .slice (some ⟨b,off,none⟩) m c)
  (hds:∀ d ∈ ds,gZ d) (Ya:ns.length=n) (Tm:∀ d ∈ ns,d.row.length=sz) (oF:∀ d ∈ ns,gZ d) (hplain:∀ d ∈ ns,∀ c ∈ d.row,plain (jY c)=true) (hlo:lo + n ≤ ds.length):
  ∃ w' g',(storeCells ⟨b,off + lo * sz,none⟩ (ns.flatMap cX) 0).run P w= .ok () w'∧Rel w0 g0 (st.wH k ⟨false,[.own (.sl sz (ds.take lo ++ ns ++ ds.drop (lo + n)))]⟩) a w' g':=by
 have hO:Ow w g k [] 0 (.sl sz ds):=hR.rt.cell k _ h1 0 (.own (.sl sz ds)) rfl
 have hf:=nK Tm
 cases hO with
 | nil _ _ _ hc=>rw [hc] at fL;cases fL
 | sl _ _ _ _ b' off' n' c' cs e hc hn hm hnc uA ho hb hfit hrow had hcell hel=>
  rw [hc] at fL
  simp only [Value.slice.injEq,Option.some.injEq,Addr.mk.injEq] at fL
  obtain ⟨⟨rfl,rfl,_⟩,rfl,rfl⟩:=fL
  have hfl:(ns.flatMap cX).length=n * sz:=by rw [hf.1,Ya]
  have hroom:lo * sz + n * sz ≤ c' * sz:=by
   rw [← Nat.add_mul]
   exact Nat.mul_le_mul_right _ (by omega)
  have h63:∀ u ∈ ns.flatMap cX,u.oneCell'=true:=fun u hu=>by
   obtain ⟨d,hd,hu⟩:=List.mem_flatMap.1 hu
   obtain ⟨x,hx,rfl⟩:=List.mem_map.1 hu
   have:=hplain d hd x hx
   cases Ch:jY x <;> first|rfl|(rw [Ch] at this;cases this)
  have hst:=run_storeCells_at P b' (off' + lo * sz) e (ns.flatMap cX) 0 cs w hb (by rw [hfl];omega) h63
  simp only [Nat.add_zero] at hst
  refine ⟨_,{ g with cv:=fun k' p' q'=>if k'=k then (match p' with| [(0,i)]=>if lo ≤ i∧i < lo + n then (ns.flatMap cX).getD ((i - lo) * sz + q') undef else g.cv k p' q'|_=>g.cv k p' q') else g.cv k' p' q' },hst, ?_⟩
  generalize hg':({ g with cv:=fun k' p' q'=>if k'=k then (match p' with| [(0,i)]=>if lo ≤ i∧i < lo + n then (ns.flatMap cX).getD ((i - lo) * sz + q') undef else g.cv k p' q'|_=>g.cv k p' q') else g.cv k' p' q' }:Gh)=g'
  have oX:g'.o=g.o:=by rw [← hg']
  have JV:g'.ad=g.ad:=by rw [← hg']
  have Zu:∀ k',k' ≠ k→g'.cv k'=g.cv k':=fun k' hk'=>by rw [← hg'];funext p' q';simp only [if_neg hk']
  have Yn:∀ q',g'.cv k [] q'=g.cv k [] q':=fun q'=>by rw [← hg'];simp
  have Zv:∀ i j,g'.cv k [(0,i)] j=if lo ≤ i∧i < lo + n then (ns.flatMap cX).getD ((i - lo) * sz + j) undef else g.cv k [(0,i)] j:=fun i j=>by rw [← hg'];simp
  generalize CX:w.setRow b' (cs.toList.take (off' + lo * sz) ++ ns.flatMap cX ++ cs.toList.drop (off' + lo * sz + (ns.flatMap cX).length)).toArray=w'
  have qc:w'.heap[b']? = some (.cells (cs.toList.take (off' + lo * sz) ++ ns.flatMap cX ++ cs.toList.drop (off' + lo * sz + (ns.flatMap cX).length)).toArray e (0,0)):=by rw [← CX];exact setRow_heap w b' cs _ e _ hb
  have yu:∀ b2,b2 ≠ b'→w'.heap[b2]? = w.heap[b2]? :=fun b2 gY=>by rw [← CX];exact setRow_other w b' b2 _ gY
  have hsize:w'.heap.size=w.heap.size:=by rw [← CX];simp [World.setRow]
  have hbr:(g.o b').gu = some k:=by rw [ho];rfl
  have Tn:∀ t,w'.cell? ⟨b',t,none⟩=(cs.toList.take (off' + lo * sz) ++ ns.flatMap cX ++ cs.toList.drop (off' + lo * sz + (ns.flatMap cX).length))[t]? :=fun t=>by
   simp only [World.cell?]
   rw [qc]
   simp
  have LG:(cs.toList.take (off' + lo * sz)).length=off' + lo * sz:=by simp;omega
  have hold:∀ t,t < off' + lo * sz ∨ off' + lo * sz + n * sz ≤ t→w'.cell? ⟨b',t,none⟩=w.cell? ⟨b',t,none⟩:=fun t ht=>by
   rw [Tn]
   have h2:w.cell? ⟨b',t,none⟩=cs[t]? :=by simp [World.cell?,hb]
   rw [h2,List.append_assoc]
   rcases ht with ht|ht
   rw [List.getElem?_append_left (by omega),List.getElem?_take,if_pos ht]
   simp
   rw [List.getElem?_append_right (by omega),LG,List.getElem?_append_right (by omega),List.getElem?_drop,hfl]
   rw [show off' + lo * sz + n * sz + (t - (off' + lo * sz) - n * sz)=t by omega]
   simp
  have hnew:∀ t,t < n * sz→w'.cell? ⟨b',off' + lo * sz + t,none⟩=(ns.flatMap cX)[t]? :=fun t ht=>by
   rw [Tn,List.append_assoc,List.getElem?_append_right (by omega),LG,List.getElem?_append_left (by omega)]
   congr 1
   omega
  have hS:nw w g w' g' (fun k'=>([k]:List Nat).contains k'=false):=by
   refine ⟨fun b2 h2=>⟨by rw [oX];exact h2,yu b2 (fun e2=>by subst e2;rw [ho] at h2;cases h2)⟩,fun k' hk' b2 h2=>⟨by rw [oX],yu b2 (fun e2=>by subst e2;rw [hbr] at h2;simp only [Option.some.injEq] at h2;subst h2;simp at hk')⟩,fun k' _=>by rw [JV],fun k' hk'=>Zu k' (fun e2=>by subst e2;simp at hk')⟩
  have hK:lF w0 g0 w' g':=by
   have hk:=hR.ks
   refine ⟨by rw [← CX];exact hk.os,by rw [← CX];exact hk.tape,by rw [← CX];exact hk.output,by rw [hsize];exact hk.size,fun b2 h2 h3=> ?_,fun b2 h2=>by rw [oX];exact hk.fresh b2 (by rw [← hsize];exact h2),fun b2 h2 h3=>by rw [oX] at h3;rw [hsize] at h2;exact hk.old b2 h2 h3,⟨fun q=> ?_,by rw [JV];exact hk.uB.2⟩,fun b2=>by rw [oX];exact hk.ie b2⟩
   have h4:=hk.block b2 h2 h3
   have h5:b2 ≠ b':=fun e2=>by
    subst e2
    rw [ho] at h4
    rw [← h4.2] at h3
    rcases h3 with h3|h3 <;> cases h3
   rw [yu b2 h5,oX]
   exact h4
   rw [Zu cm (by simp only [cm];omega)]
   exact hk.uB.1 q
  have hlen2:(ds.take lo ++ ns ++ ds.drop (lo + n)).length=n':=by simp;omega
  have N_:∀ i d,(ds.take lo ++ ns ++ ds.drop (lo + n))[i]? = some d→(lo ≤ i∧i < lo + n∧ns[i - lo]? = some d) ∨ ((i < lo ∨ lo + n ≤ i)∧ds[i]? = some d):=fun i d hd=>by
   have htl2:(ds.take lo).length=lo:=by simp;omega
   by_cases h2:i < lo
   rw [List.append_assoc,List.getElem?_append_left (by omega),List.getElem?_take,if_pos h2] at hd
   exact .inr ⟨.inl h2,hd⟩
   by_cases h3:i < lo + n
   rw [List.append_assoc,List.getElem?_append_right (by omega),htl2,List.getElem?_append_left (by omega)] at hd
   exact .inl ⟨by omega,h3,hd⟩
   rw [List.append_assoc,List.getElem?_append_right (by omega),htl2,List.getElem?_append_right (by omega),List.getElem?_drop,Ya,show lo + n + (i - lo - n)=i by omega] at hd
   exact .inr ⟨.inr (by omega),hd⟩
  have hinto:∀ {i j:Nat},lo ≤ i→i < lo + n→j < sz→(i - lo) * sz + j < n * sz:=fun h2 h3 h4=>JJ (by omega) h4
  have V9:Ow w' g' k [] 0 (.sl sz (ds.take lo ++ ns ++ ds.drop (lo + n))):=by
   refine .sl [] 0 sz _ b' off' n' c' _ e (by rw [Yn];exact hc) hlen2 hm hnc uA (by rw [oX];exact ho) qc ?_ (fun d hd=> ?_) (fun i hi=>by rw [JV];exact had i hi) (fun i j hi hj=> ?_) (fun i d hd j c2 hj=> ?_)
   simp only [List.size_toArray,List.length_append,List.length_take,List.length_drop,Array.length_toList]
   omega
   simp only [List.mem_append] at hd
   rcases hd with (hd|hd)|hd
   exact hrow d (List.mem_of_mem_take hd)
   exact Tm d hd
   exact hrow d (List.mem_of_mem_drop hd)
   simp only [List.nil_append]
   rw [Zv]
   by_cases h2:lo ≤ i∧i < lo + n
   rw [if_pos h2]
   have h3:=hinto h2.1 h2.2 hj
   have h4:off' + i * sz + j=off' + lo * sz + ((i - lo) * sz + j):=by
    have:i * sz=lo * sz + (i - lo) * sz:=by rw [← Nat.add_mul];congr 1;omega
    omega
   rw [h4,hnew _ h3,List.getD,List.getElem?_eq_getElem (by rw [hfl];exact h3)]
   simp
   rw [if_neg h2]
   have h3:=hcell i j hi hj
   simp only [List.nil_append] at h3
   rw [hold _ ?_,h3]
   by_cases h4:i < lo
   left
   have:(i + 1) * sz ≤ lo * sz:=Nat.mul_le_mul_right _ h4
   rw [Nat.add_mul] at this
   omega
   right
   have:(lo + n) * sz ≤ i * sz:=Nat.mul_le_mul_right _ (by omega)
   rw [Nat.add_mul] at this
   omega
   simp only [List.nil_append]
   rcases N_ i d hd with ⟨h2,h3,h4⟩|⟨h2,h4⟩
   have hjl:j < sz:=by rw [← Tm d (List.mem_of_getElem? h4)];exact (List.getElem?_eq_some_iff.1 hj).1
   obtain ⟨x,rfl⟩:=oF d (List.mem_of_getElem? h4) c2 (List.mem_of_getElem? hj)
   have h5:=hplain d (List.mem_of_getElem? h4) _ (List.mem_of_getElem? hj)
   refine .v _ _ x h5 ?_
   rw [Zv,if_pos ⟨h2,h3⟩,List.getD,hf.2 _ d h4 j _ hj]
   rfl
   have h5:=hel i d h4 j c2 hj
   obtain ⟨x,rfl⟩:=hds d (List.mem_of_getElem? h4) c2 (List.mem_of_getElem? hj)
   simp only [List.nil_append] at h5
   cases h5 with
   | v _ _ _ hp hx=>
    refine .v _ _ x hp ?_
    rw [Zv,if_neg (by omega)]
    exact hx
  have V7:=hR.renew (k:=k) (r:=⟨false,[.own (.sl sz (ds.take lo ++ ns ++ ds.drop (lo + n)))]⟩) (kl:=[k]) (by simp) hS hK (fun q c2 hq=>by
   cases q with
   | zero=>
    simp only [List.getElem?_cons_zero,Option.some.injEq] at hq
    subst hq
    exact V9
   | succ q=>simp at hq) rfl
  refine hR.change (bD:=st.wH k _) (pr:=DJ k) (pp:=zG k) ⟨hS.ro,fun pl hp=> ?_,fun pl hp=>by rw [JV]⟩ rfl V7.rt hK
  by_cases h2:pl.k=k
  simp only [DJ,h2,BEq.rfl,Bool.true_and,Bool.not_eq_false',Bool.and_eq_true,List.isEmpty_iff,beq_iff_eq] at hp
  rw [h2,hp.1]
  exact Yn _
  rw [Zu _ h2]
variable {o:Oper} {Q:St→Prop} {x y:Operand} {t t2 e:TypeId}
theorem sP.Zw {v:Value} {sz m n:Nat} {news:List Value} (h:sP w v sz m news) (hn:n ≤ m) (h0:0 < n):(Builtin.firstCells sz n v).run P w= .ok (news.take (n * sz)).toArray w:=by
 rcases h.2 with ⟨ad,c,rfl,rfl⟩|⟨b,off,c,rfl,hc⟩
 omega
 have hle:n * sz ≤ m * sz:=Nat.mul_le_mul_right _ hn
 exact run_firstCells_some (P:=P) w sz n ⟨b,off,none⟩ m c _ (by rw [List.length_take,h.1];omega) (fun j u hu=>by
  rw [List.getElem?_take] at hu
  split at hu
  rw [Addr.add_lit];exact hc j u hu
  cases hu)
theorem fX.copy (ho:o.op= .call { callee:= .builtin .copy,args:= #[x,y],argTypes:= #[t,t2] }) {td tv:TS} {k lo len sz:Nat} {ds ns:List D} (hx:T.cy 0 st x=some td) (hy:T.cy 0 st y=some tv)
  (h1:st.root k=some ⟨false,[.own (.sl sz ds)]⟩) (JD:Tl ds td=some (k,lo,len)) (hsz:∀ pl z i j,td= .one (.cut pl z i j)→z=sz) (h2:lu st tv=some (sz,ns)) (hds:∀ d ∈ ds,gZ d) (oF:∀ d ∈ ns,gZ d)
  (ht:P.underlying t=some (.slice e)) (hs:jm P e=some sz) {n:Nat} (hn:n=Nat.min ns.length len) (h0:0 < n) (hkp:k < 1000000)
  (hq:Q ((st.wH k ⟨false,[.own (.sl sz (ds.take lo ++ ns.take n ++ ds.drop (lo + n)))]⟩).put o.dst (I n))):fX P w0 g0 o st Q:=fun a w g hR K Q' hK=>by
 have hnn:n ≤ ns.length:=by rw [hn];exact Nat.min_le_left _ _
 have Ya:n ≤ len:=by rw [hn];exact Nat.min_le_right _ _
 have hsrc:=hR.Bm h2 oF (hR.cy hy)
 have hO:Ow w g k [] 0 (.sl sz ds):=hR.rt.cell k _ h1 0 (.own (.sl sz ds)) rfl
 have hxv:∃ b off m c cap,g.cv k [] 0= .slice (some ⟨b,off,none⟩) m c∧a.eval x= .slice (some ⟨b,off + lo * sz,none⟩) len cap∧lo + len ≤ ds.length:=by
  have hv:=hR.cy hx
  generalize a.eval x=v at hv
  unfold Tl at JD
  split at JD
  simp only [Option.some.injEq,Prod.mk.injEq] at JD
  obtain ⟨rfl,rfl,rfl⟩:=JD
  cases hv with
  | one _ _ h=>
   cases h with
   | c _ _ h=>
    have h3:=h.1
    simp only at h3
    rcases hO.dst with ⟨_,h5,_⟩|⟨b,off,c,cs,e0,h5,_⟩
    omega
    exact ⟨b,off,_,c,c,h5,by rw [h3,h5,Nat.zero_mul,Nat.add_zero],by omega⟩
  rename_i z i j
  simp only [Option.some.injEq,Prod.mk.injEq] at JD
  obtain ⟨rfl,rfl,rfl⟩:=JD
  have h3:=hsz _ _ _ _ rfl
  subst h3
  cases hv with
  | one _ _ h=>
   cases h with
   | cut _ _ _ _ b off n c fL h5 h6 h7=>
    refine ⟨b,off,n,c,c - i,fL,rfl, ?_⟩
    cases hO with
    | nil _ _ _ Cf=>rw [Cf] at fL;cases fL
    | sl _ _ _ _ b' off' n' c' cs ty SE hn hm hnc uA ho' hb hfit hrow had hcell hel=>
     rw [SE] at fL
     simp only [Value.slice.injEq] at fL
     omega
  cases JD
 obtain ⟨b,off,m,c,cap,fL,hxe,hlo⟩:=hxv
 obtain ⟨w',g',hrun,hU⟩:=hR.rewrite (P:=P) (lo:=lo) (n:=n) (ns:=ns.take n) hkp h1 fL hds (by simp;omega) (fun d hd=>hsrc.2.1 d (List.mem_of_mem_take hd)) (fun d hd=>oF d (List.mem_of_mem_take hd)) (fun d hd=>hsrc.2.2 d (List.mem_of_mem_take hd)) (by omega)
 rw [Iv hsrc.2.1] at hrun
 have Zx:=hsrc.1.Zw (P:=P) hnn h0
 have Zy:=hsrc.1.len (P:=P) w
 have LX:(execOp a.eval o).run P w= .ok (.value (.int .i64 n)) w':=by
  simp [execOp,ho,resolve,invoke,builtin,hxe,Builtin.copy_,run_underlying ht,Zy,cU hs, ← hn,Zx,hrun,goInt]
 unfold Oper.wp
 rw [LX]
 exact hK _ _ _ g' hq (hU.put (yw rfl) o.dst)
end
section
variable {c:C} {k:Nat} {bD:St}
def St.mW (st:St) (pl:Pl) (c:C):Option St:=match c with
 | .ref s=>if pl.p.isEmpty && !dP pl.k pl.p pl.q s then (match st.root pl.k with
  | some r=>(setRow (r.row.map (C.kill (dP pl.k pl.p pl.q))) pl.p pl.q (.ref s)).map fun row'=>st.wrote pl.k pl.p pl.q r.mem row' none
  | none=>none) else none
 | c=>st.dD pl c
section
variable {P:Program} {w0:World} {g0:Gh} {st:St} {a:Act} {w:World} {g:Gh}
theorem Rel.mW (hR:Rel w0 g0 st a w g) {pl:Pl} {c c0:C} {bD:St} {u:Value} (hc0:st.cellAt pl=some c0) (hm:st.gv pl=true) (hs:st.mW pl c=some bD) (hu:fO w g c u):
  ∃ g',Rel w0 g0 bD a (w.setCell (bg (g.ad pl.k pl.p) pl.q) u) g'∧oD w g (w.setCell (bg (g.ad pl.k pl.p) pl.q) u) g' (dP pl.k pl.p pl.q) (u7 pl.k pl.p pl.q)∧
   g'.ad pl.k pl.p=g.ad pl.k pl.p:=by
 cases c with
 | ro d=>exact hR.dD hc0 hm (show st.dD pl (.ro d)=some bD from hs) hu
 | own d=>exact hu.elim
 | dead=>exact hR.dD hc0 hm (show st.dD pl .dead=some bD from hs) hu
 | ref s=>
  obtain ⟨k,p,q⟩:=pl
  have h1:=hR.cellAt hc0
  have hcell:=h1.2.2.1 hm
  have N4:=(h1.2.2.2 hm).1
  have hw:Wr w (w.setCell (bg (g.ad k p) q) u) (g.ad k p).1 ((g.ad k p).2 + q) u:=Wr.Ei hcell
  have YZ:∀ g',u6 w g (w.setCell (bg (g.ad k p) q) u) g' k p q (g.ad k p).1 ((g.ad k p).2 + q) u (fun _=>False)→g'.ad k p=g.ad k p:=fun g' he=>he.ad k p (fun ⟨_,i,r,hx⟩=>by
   have:=congrArg List.length hx
   simp only [List.length_append,List.length_cons] at this
   omega)
  simp only [St.mW] at hs
  split at hs
  rename_i zK
  simp only [Bool.and_eq_true,Bool.not_eq_true'] at zK
  obtain ⟨hp,hh⟩:=zK
  have G7:p=[]:=List.isEmpty_iff.1 hp
  subst G7
  split at hs
  rename_i r hr
  rw [Option.map_eq_some_iff] at hs
  obtain ⟨row',ig,rfl⟩:=hs
  have hE:=u6.X7 (g:=g) (k:=k) (p:=[]) (q:=q) hw rfl N4
  have xF:Ic (w.setCell (bg (g.ad k []) q) u) (g.wr k [] q u) k [] q (.ref s):=by
   refine ⟨rfl, ?_⟩
   show (g.wr k [] q u).cv k [] q=(g.wr k [] q u).cv s.k s.p s.q∧((g.wr k [] q u).cv k [] q).oneCell'=true
   have h2:u=g.cv s.k s.p s.q∧u.oneCell'=true:=hu
   rw [hE.new,hE.cv _ _ _ (zJ hh)]
   exact h2
  exact ⟨g.wr k [] q u,hR.write hE (fun _ h=>h) rfl rfl rfl (by simp) hr ig xF,hE.LO,YZ _ hE⟩
  cases hs
  cases hs
theorem Hj {pl:Pl} (h:st.mW pl c=some bD):c ≠ .dead:=by
 intro e
 subst e
 exact pI (show st.dD pl .dead=some bD from h) rfl
def St.hY (k:Nat):List C→(C→C)→Nat→St→Option St
 | [],_,_,st=>some st
 | c :: cs,f,q,st=>
  match st.cellAt ⟨k,[],q⟩ with
  | some _=>
   match st.mW ⟨k,[],q⟩ (f c) with
   | some bD=>St.hY k cs (fun c=>(f c).kill (dP k [] q)) (q + 1) bD
   | none=>none
  | none=>none
theorem JX {q q':Nat} (hs:st.mW ⟨k,[],q⟩ c=some bD) (hm:st.gv ⟨k,[],q⟩=true):bD.gv ⟨k,[],q'⟩=true:=by
 cases c with
 | ro d=>exact rC (show st.dD _ (.ro d)=some bD from hs) hm
 | own d=>exact rC (show st.dD _ (.own d)=some bD from hs) hm
 | dead=>exact rC (show st.dD _ .dead=some bD from hs) hm
 | ref s=>
  simp only [St.mW] at hs
  split at hs
  split at hs
  rename_i r hr
  rw [Option.map_eq_some_iff] at hs
  obtain ⟨row',_,rfl⟩:=hs
  simp only [St.gv] at hm ⊢
  rw [hr] at hm
  have hm:r.mem=true:=hm
  rw [St.lY]
  simp [hm]
  cases hs
  cases hs
theorem Rel.hY {k:Nat}:∀ {cs:List C} {us:List Value} {f:C→C} {q:Nat} {st bD:St} {w:World} {g:Gh} (hR:Rel w0 g0 st a w g),cs.length=us.length→
  (∀ (j:Nat) c u,cs[j]? = some c→us[j]? = some u→fO w g (f c) u)→(cs ≠ []→st.gv ⟨k,[],q⟩=true)→St.hY k cs f q st=some bD→
  ∃ w' g',(∀ A,bg (g.ad k []) q=A→∀ i N5,N5.add i=A→(storeCells N5 us i).run P w= .ok () w')∧Rel w0 g0 bD a w' g'
 | [],[],f,q,st,bD,w,g,hR,_,_,_,hs=>by
  simp only [St.hY,Option.some.injEq] at hs
  subst hs
  exact ⟨w,g,fun A hA i N5 hi=>rfl,hR⟩
 | c :: cs,u :: us,f,q,st,bD,w,g,hR,hl,hu,hm,hs=>by
  simp only [St.hY] at hs
  have hm:=hm (by simp)
  split at hs
  rename_i c0 hc0
  split at hs
  rename_i Sr hs1
  have hu0:=hu 0 c u rfl rfl
  obtain ⟨g1,V7,X_,had⟩:=hR.mW hc0 hm hs1 hu0
  have xF:=hR.cellAt hc0
  have hrun:=mU (P:=P) (u:=u) (hu0.one (Hj hs1)) (xF.2.2.1 hm) (xF.2.2.2 hm).2.choose_spec.choose_spec
  obtain ⟨w',g',hr',hU⟩:=Rel.hY (cs:=cs) (us:=us) (f:=fun c=>(f c).kill (dP k [] q)) V7 (by simpa using hl) (fun j c' u' hj hj'=>
   (hu (j + 1) c' u' (by simpa using hj) (by simpa using hj')).kill X_) (fun _=>JX hs1 hm) hs
  refine ⟨w',g',fun A hA i N5 hi=> ?_,hU⟩
  have h2:=hr' (bg (g.ad k []) (q + 1)) (by rw [had]) (i + 1) N5 (by
   have:N5.add (i + 1)=(N5.add i).add 1:=by
    by_cases h:i=0
    subst h
    simp [Addr.add]
    simp [Addr.add,h,Nat.add_assoc]
   rw [this,hi, ← hA,sL])
  simp only [storeCells,Sem.run_bind,hi, ← hA]
  rw [hrun]
  exact h2
  cases hs
  cases hs
theorem fX.Rx {o:Oper} {Q:St→Prop} {x y:Operand} {t:TypeId} (ho:o.op= .store t x y) {pl:Pl} (hp:pl.p=[]) {cs:List C} {bD:St} (hx:T.cy 0 st x=some (.one (.ptr pl))) (hy:T.cy 0 st y=some (.one (.agg cs))) {n:Nat} (ht:jm P t=some n)
  (hn:cs.length=n) (hm:st.gv pl=true) (hs:St.hY pl.k cs id pl.q st=some bD) (hq:Q (bD.put o.dst (.one .dead))):fX P w0 g0 o st Q:=fun a w g hR K Q' hK=>by
 obtain ⟨pk,pp,pq⟩:=pl
 have hp:pp=[]:=hp
 subst hp
 have h1:=hR.cy hx
 have h2:=hR.cy hy
 generalize SO:a.eval x=vx at h1
 generalize Y0:a.eval y=vy at h2
 cases h1 with
 | one _ _ h1=>
  cases h1 with
  | ptr _=>
   cases h2 with
   | one _ _ h2=>
    cases h2 with
    | agg _ us hsz h2=>
     obtain ⟨w',g',hr,hU⟩:=Rel.hY (P:=P) (us:=us.toList) hR (by simpa using hsz.symm) (fun j c u hj hj'=>h2 j c u hj (by simpa using hj')) (fun _=>hm) hs
     have hrun:=hr _ rfl 0 _ (Addr.add_zero' _)
     unfold Oper.wp
     have hx':(execOp a.eval o).run P w= .ok .skip w':=by
      simp [execOp,ho,SO,Y0,Instr.storeAt,Instr.sureAddr,storeVar,Value.cells,cU ht,hrun,hsz,hn]
     rw [hx']
     exact hK _ _ _ _ hq (hU.put (.one _ _ (.dead _)) o.dst)
theorem Rel.Zz (hR:Rel w0 g0 st a w g) {m:Bool} {row row':List C} (hk:st.root k=some ⟨m,row⟩) (hl:row'.length=row.length) (h:∀ (q:Nat) c',row'[q]? = some c'→row[q]? = some c' ∨ lE w g k q c'):Rel w0 g0 (st.cq k ⟨m,row'⟩) a w g:=by
 refine ⟨hR.tm,hR.sz,hR.df,⟨fun k' r hk' q c hq=> ?_,fun k' r hk' hm=> ?_⟩,hR.ks⟩
 rw [St.c7] at hk'
 split at hk'
 rename_i e
 subst e
 simp only [Option.some.injEq] at hk'
 subst hk'
 rcases h q c hq with h1|h1
 exact hR.rt.cell _ _ hk q c h1
 exact h1
 exact hR.rt.cell k' r hk' q c hq
 rw [St.c7] at hk'
 split at hk'
 rename_i e
 subst e
 simp only [Option.some.injEq] at hk'
 subst hk'
 obtain ⟨m1,m2,m3⟩:=hR.rt.mem _ _ hk hm
 exact ⟨m1,m2,fun q hq=>m3 q (by show q < row.length;rw [← hl];exact hq)⟩
 exact hR.rt.mem k' r hk' hm
end
def j3 (P:Program) (f:FuncId) (row:List D) (wy:List (Nat×Nat)) (qs:List Nat) (pts:List TS) (R:mR→Prop):Prop:=
 ∀ (w:World) (g:Gh) (args:Array Value) (k:Nat),k < 1000000→Handed w g ⟨false,row⟩→(∀ q ∈ qs,(g.cv cm wy q).oneCell'=true)→args.size=pts.length→(∀ (i:Nat) t u,pts[i]? = some t→args[i]? = some u→dy w g t u)→
  Calls P f args w fun e w'=>∃ v row' r g',e= .returned v∧(row'=row.map (fun _=> .hole)∧R r)∧mV w g ⟨false,row⟩ k row' r v w' g'∧∀ q ∈ qs,g'.cv k wy q=g.cv cm wy q
def To (P:Program) (fn:Func) (n:Nat) (wy:List (Nat×Nat)) (qs:List Nat) (R:mR→Prop) (e:Exit) (st:St):Prop:=
 (e= .normal ∨ e= .ret)∧∃ (u_:List ResultVar) (cZ:List TV) (row:List D),fn.results=u_.toArray∧u_.length ≤ 4∧u_.map (sN P st)=cZ.map some∧
  (cZ.flatMap fh).Nodup∧gV st (cZ.flatMap fh)=some row∧R ⟨row,fun k=>nx (cZ.map (iH (cZ.flatMap fh) k))⟩∧
  ∃ (jw i:Nat) (r:List (Nat×Nat)) (b q1:Nat) (rK:Rt),wy=(jw,i) :: r∧(cZ.flatMap fh)[jw]? = some (b,q1)∧st.root cm=some rK∧∀ (j q:Nat),qs[j]? = some q→rK.row[n + j]? = some (.ref ⟨b,(q1,i) :: r,q⟩)
section
variable {P:Program} {w0:World} {g0:Gh} {st:St} {a:Act} {w w':World} {g:Gh}
theorem j3.of {f:FuncId} {fn:Func} {c:Code} {row:List D} {x:Nat×Nat} {r0:List (Nat×Nat)} {qs:List Nat} {pts:List TS} {R:mR→Prop} (hf:P.funcs[f]? = some fn) (hb:fn.body=some c) (hn:pts.length ≤ fn.ntmps)
  (hp:pts.map (TS.kill (fun pl=>Nat.beq pl.k cm && (pl.p.isEmpty && Nat.ble row.length pl.q)) fun _=>false)=pts)
  (hw:∀ w g0,TC P w g0 c ⟨pts ++ List.replicate (fn.ntmps - pts.length) (.one .dead),[(cm,⟨false,row.map C.own ++ qs.map fun q=>C.ref ⟨cm,x :: r0,q⟩⟩)]⟩ (To P fn row.length (x :: r0) qs R)):j3 P f row (x :: r0) qs pts R:=by
 intro w g args k hk hH hone hsz hargs
 generalize Bs:({ o:=g.o,ad:=g.ad,cv:=fun k p q=>if k=cm then (match p with| []=>if row.length ≤ q then (match qs[q - row.length]? with|some q'=>g.cv cm (x :: r0) q'|none=>g.cv k p q) else g.cv k p q|_=>g.cv k p q) else g.cv k p q }:Gh)=gg
 have ho:gg.o=g.o:=by subst Bs;rfl
 have had:gg.ad=g.ad:=by subst Bs;rfl
 have ZA:∀ k' y p q,gg.cv k' (y :: p) q=g.cv k' (y :: p) q:=fun k' y p q=>by subst Bs;simp only;split <;> rfl
 have hcvn:∀ k' p q,k' ≠ cm→gg.cv k' p q=g.cv k' p q:=fun k' p q h=>by subst Bs;simp only [if_neg h]
 have ZB:∀ q,q < row.length→gg.cv cm [] q=g.cv cm [] q:=fun q h=>by subst Bs;simp only [if_true,if_neg (Nat.not_le.2 h)]
 have hcvp:∀ (j q:Nat),qs[j]? = some q→gg.cv cm [] (row.length + j)=g.cv cm (x :: r0) q:=fun j q h=>by
  subst Bs
  simp only [if_true,if_pos (Nat.le_add_right _ _),Nat.add_sub_cancel_left,h]
 have hA:oD w g w gg (fun pl=>Nat.beq pl.k cm && (pl.p.isEmpty && Nat.ble row.length pl.q)) fun _=>false:=by
  refine ⟨fun b hb=>⟨by rw [ho];exact hb,rfl⟩,fun pl h=> ?_,fun pl _=>by rw [had]⟩
  obtain ⟨pk,pp,pq⟩:=pl
  by_cases h1:pk=cm
  subst h1
  cases pp with
  | cons y p=>exact ZA _ _ _ _
  | nil=>
   refine ZB pq ?_
   simp only [List.isEmpty_nil,Bool.true_and,Bool.and_eq_false_iff] at h
   rcases h with h|h
   simp at h
   exact Nat.lt_of_not_le fun h2=>by rw [Nat.ble_eq_true_of_le h2] at h;cases h
  exact hcvn _ _ _ h1
 have Sv:Handed w gg ⟨false,row⟩:=by
  refine ⟨fun b hb=>by rw [ho];exact hH.out b hb,fun b hb=>by rw [ho];exact hH.own b hb,fun b=>by rw [ho];exact hH.ie b,fun q d hq=> ?_,fun hm=>(by cases hm)⟩
  have hql:q < row.length:=(List.getElem?_eq_some_iff.1 hq).1
  exact Ow.move (hH.row q d hq) ⟨ZB q hql,fun i r q'=>ZA _ _ _ _,fun i r=>by rw [had],fun b hb=>⟨by rw [ho];exact hb,rfl⟩,fun b i r q' hb=>⟨by rw [ho];exact hb,rfl⟩⟩
 have gk:∀ k' r,(⟨pts ++ List.replicate (fn.ntmps - pts.length) (.one .dead),[(cm,⟨false,row.map C.own ++ qs.map fun q=>C.ref ⟨cm,x :: r0,q⟩⟩)]⟩:St).root k'=some r→k'=cm∧r=⟨false,row.map C.own ++ qs.map fun q=>C.ref ⟨cm,x :: r0,q⟩⟩:=fun k' r hr=>by
  simp only [St.root,List.find?_cons,List.find?_nil] at hr
  split at hr
  rename_i e
  simp only [Option.map_some,Option.some.injEq] at hr
  exact ⟨(by simpa using e:cm=k').symm,hr.symm⟩
  cases hr
 have Of:∀ (i:Nat) t u,pts[i]? = some t→args[i]? = some u→dy w gg t u:=fun i t u hi hu=>by
  have h1:=(hargs i t u hi hu).kill hA
  have h2:=congrArg (fun l:List TS=>l[i]?) hp
  simp only [List.getElem?_map,hi,Option.map_some,Option.some.injEq] at h2
  rw [h2] at h1
  exact h1
 refine calls_of_wp hf hb (wp_mono (hw w gg _ w gg ⟨fun i tv hi=> ?_, ?_,rfl,⟨fun k' r hk' q c hq=> ?_,fun k' r hk' hm=> ?_⟩,⟨rfl,rfl,rfl,Nat.le_refl _,fun b hb _=>⟨rfl,rfl⟩,fun b hb=>Sv.out b hb,fun b hb ho=> ?_,⟨fun _=>rfl,rfl⟩,Sv.ie⟩⟩) fun e a w' ⟨st,g',hE,hR⟩=> ?_)
 by_cases hlt:i < pts.length
 rw [List.getElem?_append_left hlt] at hi
 have hi':i < args.size:=by omega
 have h1:(args ++ Array.replicate (fn.ntmps - args.size) undef).getD i undef=args[i]:=by
  rw [Array.getD_eq_getD_getElem?,Array.getElem?_append_left hi',Array.getElem?_eq_getElem hi']
  rfl
 show dy w gg tv ((args ++ Array.replicate (fn.ntmps - args.size) undef).getD i undef)
 rw [h1]
 exact Of i tv _ hi (Array.getElem?_eq_getElem hi')
 rw [List.getElem?_append_right (by omega),List.getElem?_replicate] at hi
 split at hi
 simp only [Option.some.injEq] at hi
 subst hi
 exact .one _ _ (.dead _)
 cases hi
 show (args ++ Array.replicate (fn.ntmps - args.size) undef).size=_
 simp [hsz]
 obtain ⟨rfl,rfl⟩:=gk k' r hk'
 by_cases hlt:q < row.length
 have hq:(row.map C.own ++ qs.map fun q=>C.ref ⟨cm,x :: r0,q⟩)[q]? = some c:=hq
 rw [List.getElem?_append_left (by simpa using hlt),List.getElem?_map,Option.map_eq_some_iff] at hq
 obtain ⟨d,hqd,rfl⟩:=hq
 exact Sv.row q d hqd
 have hq:(row.map C.own ++ qs.map fun q=>C.ref ⟨cm,x :: r0,q⟩)[q]? = some c:=hq
 rw [List.getElem?_append_right (by simp;omega),List.length_map,List.getElem?_map,Option.map_eq_some_iff] at hq
 obtain ⟨q',DE,rfl⟩:=hq
 have h1:=hcvp _ _ DE
 rw [Nat.add_sub_cancel' (Nat.le_of_not_lt hlt)] at h1
 show gg.cv cm [] q=gg.cv cm (x :: r0) q'∧(gg.cv cm [] q).oneCell'=true
 rw [h1,ZA]
 exact ⟨rfl,hone q' (List.mem_of_getElem? DE)⟩
 obtain ⟨rfl,rfl⟩:=gk k' r hk'
 cases hm
 rcases Sv.own b hb with h1|h1
 rw [h1] at ho;cases ho
 rw [ho] at h1;cases h1
 obtain ⟨he,u_,cZ,CZ,h1,h2,h3,h4,h5,h9,jw,i,r,b,q1,rK,hwy,hsw,hrK,hrc⟩:=hE
 have Br:k ≠ cm:=by simp only [cm];omega
 have hlen:u_.length=cZ.length:=by
  have:=congrArg List.length h3
  simpa using this
 obtain ⟨us,PY,PZ,sO⟩:=hR.resultList h3
 have hrun:=oE (P:=P) h1 h2 a.tmps w' PY PZ
 have xJ:∀ (i:Nat) t u,cZ[i]? = some t→us[i]? = some u→ef w' (g'.dR (cZ.flatMap fh) k cm) (iH (cZ.flatMap fh) k t) u:=fun i t u hi hu=>Ew Br (sO i t u hi hu)
 have hval:dy w' (g'.dR (cZ.flatMap fh) k cm) (nx (cZ.map (iH (cZ.flatMap fh) k))) (CW us):=by
  have JI:∀ l:List Value,l.length=cZ.length→(∀ (i:Nat) t u,cZ[i]? = some t→l[i]? = some u→ef w' (g'.dR (cZ.flatMap fh) k cm) (iH (cZ.flatMap fh) k t) u)→
    dy w' (g'.dR (cZ.flatMap fh) k cm) (.lp (cZ.map (iH (cZ.flatMap fh) k))) (.tuple l.toArray):=fun l hl hh=>
   .lp _ _ (by simp [hl]) fun j t u hj hu=>by
    rw [List.getElem?_map,Option.map_eq_some_iff] at hj
    obtain ⟨t',hj,rfl⟩:=hj
    exact hh j t' u hj (by simpa using hu)
  have hl:=JI us (by omega) xJ
  have Wk:us.length=cZ.length:=by omega
  clear hrun PZ sO h3 h5 h9 h4 hsw
  match us,cZ,Wk with
  | [],[],_=>exact hl
  | [t],[tv],_=>exact .one _ _ (xJ 0 tv _ rfl rfl)
  | _ :: _ :: _,_ :: _ :: _,_=>exact hl
 have hG:=hR.Tk (h:=⟨false,row⟩) Sv rfl h4 h5 hk (T:=fun k=>nx (cZ.map (iH (cZ.flatMap fh) k))) hval
 have hG2:mV w g ⟨false,row⟩ k (row.map fun _=> .hole) ⟨CZ,fun k=>nx (cZ.map (iH (cZ.flatMap fh) k))⟩ (CW us) w' (g'.dR (cZ.flatMap fh) k cm):=by
  refine ⟨hG.os,hG.tape,hG.output,hG.size,fun b hb hx=>hG.block b hb (by rw [ho];exact hx),fun b hb hx=>hG.own b hb (by rw [ho];exact hx),fun b hx=>by rw [← ho];exact hG.old b hx,hG.row,hG.hlen,hG.hrow,fun hm q hq=> ?_,fun hm=>(by cases hm),hG.val⟩
  rw [← ZB q hq]
  exact hG.Ze hm q hq
 have hkeep:∀ q ∈ qs,(g'.dR (cZ.flatMap fh) k cm).cv k (x :: r0) q=g.cv cm (x :: r0) q:=fun q hq=>by
  obtain ⟨j,hj⟩:=List.mem_iff_getElem?.1 hq
  have hc:=hrc j q hj
  have h6:g'.cv cm [] (row.length + j)=g'.cv b ((q1,i) :: r) q:=(hR.rt.cell cm rK hrK _ _ hc).1
  have h7:g'.cv cm [] (row.length + j)=gg.cv cm [] (row.length + j):=hR.ks.uB.1 _
  rw [hwy]
  simp only [Gh.dR,if_neg Br,hsw]
  rw [← h6,h7,hcvp j q hj,hwy]
 have vg:∃ v,(results fn a.tmps).run P w'= .ok v w'∧∃ v_1 Ex r g',Ending.returned v=Ending.returned v_1∧(Ex=row.map (fun _=> .hole)∧R r)∧mV w g ⟨false,row⟩ k Ex r v_1 w' g'∧∀ q ∈ qs,g'.cv k (x :: r0) q=g.cv cm (x :: r0) q:=⟨_,hrun,_,_,_,_,rfl,⟨rfl,h9⟩,hG2,hkeep⟩
 rcases he with rfl|rfl
 exact ⟨hR.df,vg⟩
 exact ⟨hR.df,vg⟩
end
end
end Go.Proofs.YtdliggkohdnipaaGreat.T
