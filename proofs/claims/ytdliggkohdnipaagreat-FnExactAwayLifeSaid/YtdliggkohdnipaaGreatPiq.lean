import Derived.Test.YtdliggkohdnipaaGreatRpq
import Derived.Test.YtdliggkohdnipaaGreatNwq
set_option linter.unusedVariables false
set_option linter.unusedSimpArgs false
namespace Go.Proofs.YtdliggkohdnipaaGreat.T
open Go
section
variable {c:Code} {P:Program}
def St.tail (st:St) (k t sz:Nat) (ds:List D):St:=
 ((st.kill (Ba k) (Ba k)).cw k ⟨false,[.own (.sl sz ds)]⟩).put (some t) (.one (.c (.ref ⟨k,[],0⟩)))
section
variable {P:Program} {w0:World} {g0:Gh} {st:St} {a:Act} {w:World} {g:Gh}
theorem Rel.tail (hR:Rel w0 g0 st a w g) {k t sz i:Nat} {ds:List D} (ht:st.tmps[t]? = some (.one (.cut ⟨k,[],0⟩ sz i ds.length))) (gT:st.root k=some ⟨false,[.own (.sl sz ds)]⟩) (hkp:k < 1000000) (hds:∀ d ∈ ds,iI d):
  ∃ g',Rel w0 g0 (st.tail k t sz (ds.drop i)) a w g':=by
 have hu:=hR.tm t _ ht
 have hO:Ow w g k [] 0 (.sl sz ds):=hR.rt.cell k _ gT 0 (.own (.sl sz ds)) rfl
 generalize hut:a.tmps.getD t undef=u at hu
 cases hu with
 | one _ _ hu=>
  cases hu with
  | cut _ _ _ _ b off n c hc h1 h2 h3=>
   have hc:g.cv k [] 0= .slice (some ⟨b,off,none⟩) n c:=hc
   cases hO with
   | nil _ _ _ DC=>rw [DC] at hc;cases hc
   | sl _ _ _ _ b' off' n' c' cs e DC hn hm hnc v7 ho hb hfit hrow had hcell hel=>
    rw [DC] at hc
    simp only [Value.slice.injEq,ea,Addr.mk.injEq] at hc
    obtain ⟨⟨rfl,rfl,_⟩,rfl,rfl⟩:=hc
    let g':Gh:={ g with
     cv:=fun k' p' q'=>if k'=k then (match p' with| []=> .slice (some ⟨b',off' + i * sz,none⟩) (ds.length - i) (c' - i)|(_,j) :: r=>g.cv k ((0,j + i) :: r) q') else g.cv k' p' q'
     ad:=fun k' p'=>if k'=k then (match p' with| []=>g.ad k []|(_,j) :: r=>g.ad k ((0,j + i) :: r)) else g.ad k' p' }
    have gz:∀ k' p' q',k' ≠ k→g'.cv k' p' q'=g.cv k' p' q':=fun k' p' q' h=>if_neg h
    have LA:∀ k' p',k' ≠ k→g'.ad k' p'=g.ad k' p':=fun k' p' h=>if_neg h
    have hel':∀ j q',g'.cv k [(0,j)] q'=g.cv k [(0,j + i)] q':=fun j q'=>by simp [g']
    have had':∀ j,g'.ad k [(0,j)]=g.ad k [(0,j + i)]:=fun j=>by simp [g']
    have hnil:g'.cv k [] 0= .slice (some ⟨b',off' + i * sz,none⟩) (ds.length - i) (c' - i):=by simp [g']
    have hA:qo w g w g' (Ba k) (Ba k):=⟨fun b hb=>⟨hb,rfl⟩,fun pl hp=>gz _ _ _ (by simpa [Ba] using hp),fun pl hp=>LA _ _ (by simpa [Ba] using hp)⟩
    have XN:Ow w g' k [] 0 (.sl sz (ds.drop i)):=by
     refine .sl [] 0 sz _ b' (off' + i * sz) (ds.length - i) (c' - i) cs e hnil (by simp) (by omega) (by omega) (by omega) ho hb ?_ (fun d hd=>hrow d (List.mem_of_mem_drop hd)) (fun j hj=> ?_) (fun j q hj hq=> ?_) (fun j d hd q c2 hq=> ?_)
     have:off' + i * sz + (c' - i) * sz=off' + c' * sz:=by rw [Nat.add_assoc, ← Nat.add_mul];congr 2;omega
     omega
     show g'.ad k [(0,j)]=_
     rw [had']
     have:=had (j + i) (by omega)
     simp only [List.nil_append] at this
     rw [this,Nat.add_mul]
     congr 1
     omega
     show _=some (g'.cv k [(0,j)] q)
     rw [hel']
     have:=hcell (j + i) q (by omega) hq
     simp only [List.nil_append] at this
     rw [← this]
     congr 2
     rw [Nat.add_mul]
     omega
     have ru:ds[j + i]? = some d:=by rw [List.getElem?_drop] at hd;rwa [Nat.add_comm]
     obtain ⟨x,rfl⟩:=hds d (aH ru) c2 (aH hq)
     have:=hel (j + i) d ru q _ hq
     cases this with
     | v _ _ _ hx m9=>
      refine .v _ _ x hx ?_
      show g'.cv k [(0,j)] q=x
      rw [hel']
      exact m9
    have WI:∀ k' r',((st.kill (Ba k) (Ba k)).cw k ⟨false,[.own (.sl sz (ds.drop i))]⟩).root k'=some r'→(k'=k∧r'=⟨false,[.own (.sl sz (ds.drop i))]⟩) ∨ (k' ≠ k∧∃ r1,st.root k'=some r1∧r'=r1.kill (Ba k)):=fun k' r' h=>by
     rw [St.dA] at h
     split at h
     rename_i e1
     simp only [ea] at h
     exact .inl ⟨e1,h.symm⟩
     rename_i e1
     rw [St.j5,iX] at h
     obtain ⟨r1,h1,h2⟩:=h
     exact .inr ⟨e1,r1,h1,h2.symm⟩
    have iU:Rel w0 g0 ((st.kill (Ba k) (Ba k)).cw k ⟨false,[.own (.sl sz (ds.drop i))]⟩) a w g':=by
     refine hR.change hA rfl ⟨fun k' r' hk' q c DC=> ?_,fun k' r' hk' hm=> ?_⟩ ?_
     rcases WI k' r' hk' with ⟨rfl,rfl⟩|⟨h1,r1,h3,rfl⟩
     match q,DC with
     | 0,DC=>
      cases DC
      exact XN
     | q + 1,DC=>simp at DC
     simp only [Rt.kill,ec,iX] at DC
     obtain ⟨c1,h4,rfl⟩:=DC
     have h5:=hR.rt.cell k' r1 h3 q c1 h4
     cases c1 with
     | ro d=>show Ro w g'.o d _;rw [gz _ _ _ h1];exact Ro.mono hA.ro h5
     | own d=>exact Ow.move (g':=g') h5 ⟨gz _ _ _ h1,fun i r q'=>gz _ _ _ h1,fun i r=>LA _ _ h1,fun b hb=>⟨hb,rfl⟩,fun b i r q' hb=>⟨hb,rfl⟩⟩
     | ref pl=>
      have h6:g.cv k' [] q=g.cv pl.k pl.p pl.q∧(g.cv k' [] q).oneCell'=true:=h5
      simp only [C.kill]
      by_cases e:pl.k=k
      rw [if_pos (by simpa [Ba] using e)];trivial
      rw [if_neg (by simpa [Ba] using e)]
      show g'.cv k' [] q=g'.cv pl.k pl.p pl.q∧(g'.cv k' [] q).oneCell'=true
      rw [gz _ _ _ h1,gz _ _ _ e]
      exact h6
     | dead=>trivial
     rcases WI k' r' hk' with ⟨rfl,rfl⟩|⟨h1,r1,h3,rfl⟩
     cases hm
     obtain ⟨m1,m2,m3⟩:=hR.rt.mem k' r1 h3 (by simpa [Rt.kill] using hm)
     have e1:g'.ad k' []=g.ad k' []:=LA _ _ h1
     refine ⟨by rw [e1];exact m1,by rw [e1];exact m2,fun q hq=> ?_⟩
     rw [e1,gz _ _ _ h1]
     exact m3 q (by simpa [Rt.kill] using hq)
     have hk:=hR.ks
     refine ⟨hk.os,hk.tape,hk.output,hk.size,hk.block,hk.fresh,hk.old,⟨fun q=> ?_, ?_⟩,hk.iS⟩
     rw [gz cu _ _ (by simp only [cu];omega)];exact hk.v8.1 q
     rw [LA ev _ (by simp only [ev];omega)];exact hk.v8.2
    refine ⟨g',⟨fun j tv hj=> ?_, ?_,iU.df,iU.rt,iU.ks⟩⟩
    simp only [St.tail,St.put] at hj
    by_cases e1:t=j
    subst e1
    have hlt:t < (st.kill (Ba k) (Ba k)).tmps.length:=by
     have:=(aM.1 ht).1
     simpa [St.kill] using this
    have h5:((st.kill (Ba k) (Ba k)).tmps.set t (TS.one (TV.c (C.ref ⟨k,[],0⟩))))[t]? = some (TS.one (TV.c (C.ref ⟨k,[],0⟩))):=List.getElem?_set_self hlt
    have h6:some (TS.one (TV.c (C.ref ⟨k,[],0⟩)))=some tv:=h5.symm.trans hj
    simp only [ea] at h6
    subst h6
    rw [hut]
    exact .one _ _ (.c _ _ ⟨hnil.symm,rfl⟩)
    have h5:((st.kill (Ba k) (Ba k)).tmps.set t (TS.one (TV.c (C.ref ⟨k,[],0⟩))))[j]? = (st.kill (Ba k) (Ba k)).tmps[j]? :=List.getElem?_set_ne e1
    exact iU.tm j tv (h5.symm.trans hj)
    have:=iU.sz
    simp only [St.tail,St.put,bD]
    exact this
end
def tailR (rs:Rs) (k sz:Nat) (ds:List D):Rs:=(((⟨[],rs⟩:St).kill (Ba k) (Ba k)).cw k ⟨false,[.own (.sl sz ds)]⟩).roots
inductive TailW (ds:List D) (i hi:Nat) (k:List D→Prop):Prop
 | mk (l:List D) (hds:∀ d ∈ ds,iI d) (hh:hi=ds.length) (hl:ds.drop i=l) (c:k l)
def Sp (n t:Nat) (e:List En) (rs:Rs) (K:Kn):Prop:=P5 n e t fun s=>match s with
 | .one (.cut pl sz lo hi)=>(match pl with
  | ⟨k,p,q⟩=>BR (p.isEmpty && Nat.beq q 0 && Nat.blt k 1000000) (N3 rs k fun sz' ds=>BR (Nat.beq sz sz') (TailW ds lo hi fun l=>k5 k rs (tailR rs k sz l) fun rs=>K (.set t (.one (.c (.ref ⟨k,[],0⟩))) :: .app (TS.kill (Ba k) (Ba k)) :: e) rs) False) False)
 | _=>False
theorem WJ {n t:Nat} {e:List En} {rs:Rs} {K:Kn} (h:Sp n t e rs K):∃ e' fZ,Can (aZ n e rs) (aZ n e' fZ)∧K e' fZ:=by
 obtain ⟨s,h1,h2⟩:=yE (rs:=rs) h
 split at h2
 rename_i pl sz lo hi
 obtain ⟨k,p,q⟩:=pl
 simp only at h2
 obtain ⟨h3,h4⟩:=bQ h2
 simp only [bh,List.isEmpty_iff] at h3
 obtain ⟨⟨rfl,h5⟩,h6⟩:=h3
 have h5:=ed h5
 subst h5
 obtain ⟨sz',ds,h7,h8⟩:=BC (n:=n) (e:=e) h4
 obtain ⟨h9,mo⟩:=bQ h8
 have h9:=ed h9
 subst h9
 obtain ⟨l,hds,hh,hl,hc⟩:=mo
 subst hh;subst hl
 refine ⟨_,_,fun hR=> ?_,hU hc⟩
 obtain ⟨g',qT⟩:=hR.tail h1 h7 (fA h6) hds
 refine ⟨g', ?_⟩
 have e1:(aZ n e rs).tail k t sz (ds.drop lo)=aZ n (.set t (.one (.c (.ref ⟨k,[],0⟩))) :: .app (TS.kill (Ba k) (Ba k)) :: e) (tailR rs k sz (ds.drop lo)):=by
  rw [← F8, ← iY (rs:=rs)]
  rfl
 rwa [← e1]
 exact h2.elim
def endT (P:Program) (n t:Nat) (rv:List ResultVar) (R:nQ→Prop):Kx:=fun ex e rs=>match ex with
 | .normal=>Sp n t e rs (Tt P n rv R)
 | .ret=>Sp n t e rs (Tt P n rv R)
 | _=>False
theorem TC.canEnd {w0:World} {g0:Gh} {st:St} {Q Q':Exit→St→Prop} (h:TC P w0 g0 c st Q) (hq:∀ ex st,Q ex st→∃ bJ,Can st bJ∧Q' ex bJ):TC P w0 g0 c st Q':=fun a w g hR=>
 wp_mono (h a w g hR) fun e a' w' ⟨Um,g1,h1,h2⟩=>by
  obtain ⟨yy,h3,h4⟩:=hq e Um h1
  obtain ⟨g2,h5⟩:=h3 h2
  exact ⟨yy,g2,h4,h5⟩
theorem aF.wT {f:FuncId} {fn:Func} {pts:List TS} {R:nQ→Prop} (n t:Nat) (hf:P.funcs[f]? = some fn) (h:∀ w g0,jq pts→sj 0 pts fun e=>wC P w g0 n c e [] (endT P n t fn.results.toList R)) 
  (hb:fn.body=some c:=by exact rfl) (hn:fn.ntmps=n:=by exact rfl) (eW:Nat.ble pts.length n=true:=by exact rfl):aF P f pts R:=by
 have hl:=fA eW
 subst hn
 refine aF.of hf hb hl fun w g0=>TC.jq fun hM=> ?_
 obtain ⟨e,h1,h2⟩:=jC (m:=0) (h w g0 hM)
 rw [mA hl h1]
 refine (n7 h2).canEnd fun ex st ⟨e,rs,hst,hk⟩=> ?_
 subst hst
 have key:Sp fn.ntmps t e rs (Tt P fn.ntmps fn.results.toList R)→∀ ex,(ex= .normal ∨ ex= .ret)→∃ bJ,Can (aZ fn.ntmps e rs) bJ∧Ends P fn R ex bJ:=fun hk ex hex=>by
  obtain ⟨e',fZ,hc,h3⟩:=WJ hk
  refine ⟨_,hc, ?_⟩
  have:Lf fn.ntmps (LS P fn.ntmps fn.results.toList R) ex (aZ fn.ntmps e' fZ):=⟨e',fZ,rfl,by rcases hex with rfl|rfl <;> exact h3⟩
  exact vu this
 unfold endT at hk
 split at hk
 exact key hk _ (.inl rfl)
 exact key hk _ (.inr rfl)
 exact hk.elim
theorem tlp {ds:List D} {i hi:Nat} {k:List D→Prop} (l:List D) [h:PL ds] (c:k l) (hh:hi=ds.length:=by rfl) (hl:ds.drop i=l:=by rfl):TailW ds i hi k:=⟨l,h.w,hh,hl,c⟩
end
section
variable {a:Bool} {p ag t:Int} {b:List bP} {inner outer:List aQ} {i:Nat} {y:bP} {k:cE}
set_option maxRecDepth 100000
set_option maxHeartbeats 8000000
section
variable {α:Type} {p: α→Bool} {b:List α} {i:Nat} {y: α}
theorem WK (h:(b.take i).find? p=none) (hy:b[i]? = some y) (hp:p y=true):b.find? p=some y:=by
 obtain ⟨hi,he⟩:=aM.1 hy
 have hd:b.drop i=y :: b.drop (i + 1):=by rw [Bg hi,he]
 have e:b.find? p=(b.take i ++ b.drop i).find? p:=by rw [List.take_append_drop]
 rw [e,List.find?_append,h,hd,List.find?_cons,hp]
 rfl
theorem FC (h:(b.take i).find? p=none) (hy:b[i]? = some y) (hp:p y=false):(b.take (i + 1)).find? p=none:=by
 rw [fX,hy,List.find?_append,h]
 show List.find? p [y]=none
 rw [List.find?_cons,hp]
 rfl
theorem WM (h:(b.take i).find? p=none) (hi:b.length ≤ i):b.find? p=none:=by rwa [fu hi] at h
end
theorem Mz (h:y.Tag=t) (h1:y.aN=p):kM t p y=true:=by unfold kM;rw [decide_eq_true h,decide_eq_true h1];rfl
theorem HI (h:¬ y.Tag=t ∨ ¬ y.aN=p):kM t p y=false:=by
 unfold kM
 rcases h with h|h
 rw [decide_eq_false h];rfl
 rw [decide_eq_false h,jt]
theorem HJ {b:List bP} {t p:Int}:(bU b t p).length ≤ b.length:=List.length_filter_le _ _
theorem WN (hy:b[i]? = some y) (h:¬ y.Tag=t ∨ ¬ y.aN=p):(bU (b.take (i + 1)) t p).map aC=(bU (b.take i) t p).map aC ++ [aC y]:=by
 unfold bU
 rw [fX,hy,List.filter_append,iW]
 simp [HI h]
theorem fp_no (hy:b[i]? = some y) (h:y.Tag=t) (h1:y.aN=p):(bU (b.take (i + 1)) t p).map aC=(bU (b.take i) t p).map aC:=by
 unfold bU
 rw [fX,hy,List.filter_append,iW]
 simp [Mz h h1]
instance (b:List bP) (t p:Int) (n:Nat) [h:cX b n]:cX (bU b t p) n:=⟨eP HJ h.h⟩
theorem TW {e:bP} (h:¬ 6 < ((bU b e.Tag e.aN).length:Int) + 1):ic b e=bU b e.Tag e.aN ++ [e]:=by
 unfold ic
 rw [show (bU b e.Tag e.aN).length + 1 - 6=0 by omega]
 rfl
theorem QO (h:¬ (0 ≤ ag∧ag < k.cG.length∧ag < k.dQ.length)):ask k ag=none:=by
 unfold ask fk
 rw [decide_eq_false h]
 rfl
theorem WO (h:0 ≤ ag∧ag < k.cG.length∧ag < k.dQ.length) (ha:k.cG[ag.toNat]? = some a):ask k ag=if a=true then m5 k.dQ ag else none:=by
 unfold ask fk
 rw [decide_eq_true h,qH h.1 ha]
 rfl
theorem Sq (h:0 ≤ ag∧ag < k.cG.length∧ag < k.dQ.length) (ha:k.cG[ag.toNat]? = some a) (h1:a=false):ask k ag=none:=by rw [WO h ha,h1];rfl
theorem Sr {z:aQ} (h:0 ≤ ag∧ag < k.cG.length∧ag < k.dQ.length) (ha:k.cG[ag.toNat]? = some a) (h1:a=true) (hz:k.dQ[ag.toNat]? = some z):ask k ag=some z:=by rw [WO h ha,if_pos h1,qH h.1 hz]
theorem B4 (h:¬ (0 ≤ ag∧ag < k.cG.length∧ag < k.dQ.length) ∨ ¬ (0 ≤ ag∧ag < inner.length)):eX k inner outer ag=k:=by
 unfold eX
 cases hs:m5 inner ag with
 | none=>rfl
 | some s=>
  rcases h with h|h
  unfold fk
  rw [decide_eq_false h]
  rfl
  rw [q4 h] at hs;cases hs
theorem OR {s:aQ} (h:0 ≤ ag∧ag < k.cG.length∧ag < k.dQ.length) (hs:inner[ag.toNat]? = some s):
  ia (eX k inner outer ag)=[.sl 1 ((k.cG.map bO).set ag.toNat (bO true)), .sl 2 ((k.dQ.map aT).set ag.toNat (aT (fI s outer)))]:=by
 unfold eX fk
 rw [qH h.1 hs,decide_eq_true h]
 show ia ⟨put k.cG ag true,put k.dQ ag (fI s outer)⟩=_
 rw [vA h.1,vA h.1, ← bL, ← bL]
theorem ownE {kl:List Nat} {k sz:Nat} {ds l:List D} {e:List En} {rs:Rs} {K:Kn} (h:ds=l) (hk:LH kl k sz l e rs K):LH kl k sz ds e rs K:=h ▸ hk
abbrev HK:Nat→Bool:=fun _=>true
theorem Ss:gQ k (dn HK (i + 1))=forget (gQ k (dn HK i)) i:=by
 rw [c_]
 unfold gQ
 rw [if_pos rfl,List.foldl_append]
 rfl
theorem MA:(forget k p).cG.length=k.cG.length:=by
 unfold forget
 split
 exact pV
 rfl
theorem vN:∀ {l:List Int} {k:cE},(gQ k l).cG.length=k.cG.length
 | [],k=>rfl
 | p :: l,k=>by show (gQ (forget k p) l).cG.length=_;rw [vN,MA]
theorem WQ (h:i=k.cG.length):iQ k=gQ k (dn HK i):=by subst h;rfl
theorem fp_at (hy:b[i]? = some y):(bU (b.take (i + 1)) t p).map aC=if kM t p y=true then (bU (b.take i) t p).map aC else (bU (b.take i) t p).map aC ++ [aC y]:=by
 unfold bU
 rw [fX,hy,List.filter_append,iW]
 cases h:kM t p y <;> simp [h]
theorem uY (b:List bP) (t:Int) (p:Int):aF Tryz.prog 457 [L 4 (b.map aC),I t,I p] (RG [.a (tW ((cR b t p).getD Oa)), .c (.v (.bool (cR b t p).isSome))]):=by
 refine aF.w 36 Tryz.func457 fun w g0 hM=> ?_
 have eW:=hM.1.map
 refine ck [0,1,2,6] [] [] (fun (i:Nat)=>[.set 8 (I i)]) (fun (i:Nat)=>[]) (fun (i:Nat)=>i ≤ b.length∧(b.take i).find? (kM t p)=none) (fun (i:Nat)=>b.length - i) (0) (⟨bG _,rfl⟩) ?_
 refine ⟨hda,fun i hyp N1 bq=> ?_⟩
 have hyp:i ≤ b.length∧(b.take i).find? (kM t p)=none:=hyp
 have Es:=hyp.1
 refine len ?_
 refine aB ?_ ?_ <;> intro hb
 ·obtain ⟨y,hy⟩:∃ y,b[i]? = some y:=⟨_,bg (by omega)⟩
  refine dM hy ?_
  skip
  refine aB ?_ ?_ <;> intro GO
  ·refine dM hy ?_
   skip
   refine aB ?_ ?_ <;> intro iz
   ·refine dM hy ?_
    skip
    refine bq _ _ _ ?_
    exact (by rw [cR,WK hyp.2 hy (Mz ‹_› ‹_›)];rfl)
   ·refine cg ?_
    refine bq _ _ _ ?_
    refine hY (i + 1) (⟨by omega,FC hyp.2 hy (HI (by right;assumption))⟩)
  ·refine cg ?_
   refine bq _ _ _ ?_
   refine hY (i + 1) (⟨by omega,FC hyp.2 hy (HI (by left;assumption))⟩)
 ·refine bq _ _ _ ?_
  exact (by rw [cR,WM hyp.2 (by omega)];rfl)
theorem uZ (b:List bP) (t:Int) (p:Int):aF Tryz.prog 472 [L 4 (b.map aC),I t,I p] (RG [.a (tW ((cR b t p).getD Oa)), .c (.v (.bool (cR b t p).isSome))]):=by
 refine aF.w 29 Tryz.func472 fun w g0 hM=> ?_
 have eW:=hM.1.map
 refine len ?_
 refine ck [1,2,6,10,11] [] [] (fun (i:Nat)=>[.set 12 (I i)]) (fun (i:Nat)=>[]) (fun (i:Nat)=>i ≤ b.length∧(b.take i).find? (kM t p)=none) (fun (i:Nat)=>b.length - i) (0) (⟨bG _,rfl⟩) ?_
 refine ⟨hda,fun i hyp N1 bq=> ?_⟩
 have hyp:i ≤ b.length∧(b.take i).find? (kM t p)=none:=hyp
 have Es:=hyp.1
 refine aB ?_ ?_ <;> intro hb
 ·obtain ⟨y,hy⟩:∃ y,b[i]? = some y:=⟨_,bg (by omega)⟩
  refine dM hy ?_
  skip
  refine aB ?_ ?_ <;> intro Fu
  ·refine aB ?_ ?_ <;> intro iz
   ·refine bq _ _ _ ?_
    exact (by rw [cR,WK hyp.2 hy (Mz ‹_› ‹_›)];rfl)
   ·refine cg ?_
    refine bq _ _ _ ?_
    refine hY (i + 1) (⟨by omega,FC hyp.2 hy (HI (by right;assumption))⟩)
  ·refine cg ?_
   refine bq _ _ _ ?_
   refine hY (i + 1) (⟨by omega,FC hyp.2 hy (HI (by left;assumption))⟩)
 ·refine bq _ _ _ ?_
  exact (by rw [cR,WM hyp.2 (by omega)];rfl)
theorem pJ (b:List bP) (t:Int) (p:Int) [Q (c4 b)]:aF Tryz.prog 347 [L 4 (b.map aC),I t,I p] (RL 4 ((bU b t p).map aC)):=by
 refine aF.w 40 Tryz.func347 fun w g0 hM=> ?_
 have eW:=hM.1.map
 refine ck [0,1,2,6,7] [7] [7] (fun (i:Nat)=>[.set 8 (I i)]) (fun (i:Nat)=>[(7,⟨false,[.own (.sl 4 ((bU (b.take i) t p).map aC))]⟩)]) (fun (i:Nat)=>i ≤ b.length) (fun (i:Nat)=>b.length - i) (0) (bG _) ?_
 refine ⟨hda,fun i hyp N1 bq=> ?_⟩
 have hyp:i ≤ b.length:=hyp
 have hfl:= @HJ (b.take i) t p
 have JO:(b.take i).length ≤ b.length:=by rw [e_];omega
 have hbl:=(inferInstance:cX b 1048576).h
 refine len ?_
 refine aB ?_ ?_ <;> intro hb
 ·obtain ⟨y,hy⟩:∃ y,b[i]? = some y:=⟨_,bg (by omega)⟩
  refine dM hy ?_
  skip
  refine aB ?_ ?_ <;> intro GO
  ·refine dM hy ?_
   skip
   refine cD ?_
   refine cg ?_
   refine bq _ _ _ ?_
   refine hY (i + 1) (by omega) (by repeat' first|exact rfl|constructor|(refine dL ?_;rw [WN hy (by left;assumption)];done))
  ·refine dM hy ?_
   skip
   refine aB ?_ ?_ <;> intro iz
   ·refine dM hy ?_
    skip
    refine cD ?_
    refine cg ?_
    refine bq _ _ _ ?_
    refine hY (i + 1) (by omega) (by repeat' first|exact rfl|constructor|(refine dL ?_;rw [WN hy (by right;assumption)];done))
   ·refine cg ?_
    refine bq _ _ _ ?_
    refine hY (i + 1) (by omega) (by repeat' first|exact rfl|constructor|(refine dL ?_;rw [fp_no hy ‹_› ‹_›];done))
 ·refine bq _ _ _ ?_
  exact (by rw [fu (by omega)];rfl)
theorem B5 (e:bP) (t p:Int):aF Tryz.prog 401 [A (tW e), .one (.b9 [.v (.int .i64 t)]), .one (.b9 [.v (.int .i64 p)])] (RV (.bool (kM t p e))):=by
 refine aF.w 15 Tryz.func401 fun w g0 _=> ?_
 refine aB ?_ ?_ <;> intro Fu
 exact ay (by refine congrArg Value.bool ?_;rw [dX];simp [kM, *];done)
 exact ay (by simp [kM, *];done)
theorem AX (b:List bP) (t:Int) (p:Int) [Q (c4 b)]:aF Tryz.prog 400 [L 4 (b.map aC), .fn 401 [.b9 [.v (.int .i64 t)], .b9 [.v (.int .i64 p)]]] (RL 4 ((bU b t p).map aC)):=by
 refine aF.w 25 Tryz.func400 fun w g0 hM=> ?_
 have eW:=hM.1.map
 refine len ?_
 refine ck [1,4,5,9,10] [5] [5] (fun (i:Nat)=>[.set 11 (I i)]) (fun (i:Nat)=>[(5,⟨false,[.own (.sl 4 ((bU (b.take i) t p).map aC))]⟩)]) (fun (i:Nat)=>i ≤ b.length) (fun (i:Nat)=>b.length - i) (0) (bG _) ?_
 refine ⟨hda,fun i hyp N1 bq=> ?_⟩
 have hyp:i ≤ b.length:=hyp
 have hfl:= @HJ (b.take i) t p
 have JO:(b.take i).length ≤ b.length:=by rw [e_];omega
 have hbl:=(inferInstance:cX b 1048576).h
 refine aB ?_ ?_ <;> intro hb
 ·obtain ⟨y,hy⟩:∃ y,b[i]? = some y:=⟨_,bg (by omega)⟩
  refine dM hy ?_
  skip
  refine VT (B5 y t p).k ?_
  refine aB ?_ ?_ <;> intro iz
  ·refine cD ?_
   refine cg ?_
   refine bq _ _ _ ?_
   refine hY (i + 1) (by omega) (by repeat' first|exact rfl|constructor|(refine dL ?_;rw [fp_at hy,if_neg (by simp [*])];done))
  ·refine cg ?_
   refine bq _ _ _ ?_
   refine hY (i + 1) (by omega) (by repeat' first|exact rfl|constructor|(refine dL ?_;rw [fp_at hy,if_pos ‹_›];done))
 ·refine bq _ _ _ ?_
  exact (by rw [fu (by omega)];rfl)
theorem pK (b:List bP) (t:Int) (p:Int) [Q (c4 b)]:aF Tryz.prog 276 [L 4 (b.map aC),I t,I p] (RL 4 ((bU b t p).map aC)):=by
 refine aF.w 10 Tryz.func276 fun w g0 _=> ?_
 refine bu (AX b t p).k ?_
 exact rfl
theorem nL (b:List bP) (e:bP) [Q (c4 b)]:aF Tryz.prog 316 [L 4 (b.map aC),A (tW e)] (RL 4 ((ic b e).map aC)):=by
 refine aF.w 26 Tryz.func316 fun w g0 _=> ?_
 have hfl:= @HJ b e.Tag e.aN
 have hbl:=(inferInstance:cX b 1048576).h
 refine gp [8] [] [] (.quiet 0 0 (.quiet 1 0 (.quiet 2 0 (.quiet 3 0 (.quiet 4 0 (.quiet 6 0 (.fork (.alt 5 (.fa 7 (.fa 8 (.quiet 9 0 .done))) (.alt 7 (.fa 5 (.fa 8 (.quiet 9 0 .done))) .stop))))))))) ?_
 repeat' first|exact True.intro|refine And.intro ?_ ?_|refine bu (pJ b e.Tag e.aN).k ?_|refine cD ?_
 all_goals (
  refine LU ((bU b e.Tag e.aN).length + 1) ?_ (by simp)
  refine aB ?_ ?_ <;> intro hb
  ·refine LU ((bU b e.Tag e.aN).length + 1) ?_ (by simp)
   refine cg ?_
   refine YE ((bU b e.Tag e.aN).length + 1 - 6) ((bU b e.Tag e.aN).length + 1) ?_ (by omega) (by simp)
   refine cD ?_
   exact (by refine ownE (l:=(ic b e).map aC) (by unfold ic;rw [List.map_drop,iW,List.nil_append,fu (by simp)];rfl) ?_;exact rfl)
  ·exact (by rw [TW (by omega),iW];rfl))
theorem wG (b:List bP) (e:bP) [Q (c4 b)]:aF Tryz.prog 475 [L 4 (b.map aC),A (tW e)] (RL 4 ((ic b e).map aC)):=by
 refine aF.wT 21 4 Tryz.func475 fun w g0 _=> ?_
 have hfl:= @HJ b e.Tag e.aN
 have hbl:=(inferInstance:cX b 1048576).h
 refine gp [8] [] [] (.quiet 0 0 (.quiet 1 0 (.quiet 2 0 (.quiet 3 0 (.quiet 4 0 (.quiet 6 0 (.fork (.alt 5 (.fa 7 (.fa 8 (.quiet 9 0 .done))) (.alt 7 (.fa 5 (.fa 8 (.quiet 9 0 .done))) .stop))))))))) ?_
 repeat' first|exact True.intro|refine And.intro ?_ ?_|refine bu (pK b e.Tag e.aN).k ?_|refine cD ?_
 all_goals (
  refine LU ((bU b e.Tag e.aN).length + 1) ?_ (by simp)
  refine cg ?_
  refine YE ((bU b e.Tag e.aN).length + 1 - 6) ((bU b e.Tag e.aN).length + 1) ?_ (by omega) (by simp)
  exact (by refine tlp ((ic b e).map aC) ?_ (by simp) (by unfold ic;rw [List.map_drop,iW];rfl);exact rfl))
theorem mc (k:cE) (ag:Int):aF Tryz.prog 459 [A (ia k),I ag] (RG [.a (iF ((ask k ag).getD bE)), .c (.v (.bool (ask k ag).isSome))]):=by
 refine aF.w 24 Tryz.func459 fun w g0 hM=> ?_
 have hkq:∀ h:fk k ag=false,¬ (0 ≤ ag∧ag < k.cG.length∧ag < k.dQ.length):=fun h=>by simpa [fk] using h
 have eW:=hM.1.1.map
 have F3:=hM.1.2.1.map
 refine ah (uc _ _).k ?_
 refine aB ?_ ?_ <;> intro Fu
 ·refine ah (cW).k ?_
  exact (by rw [QO (hkq ‹_›)];rfl)
 ·have hkp:0 ≤ ag∧ag < k.cG.length∧ag < k.dQ.length:=by simpa [fk] using (by assumption:fk k ag=true)
  obtain ⟨a,ha⟩:∃ a,k.cG[ag.toNat]? = some a:=⟨_,bg (by omega)⟩
  obtain ⟨z,hz⟩:∃ z,k.dQ[ag.toNat]? = some z:=⟨_,bg (by omega)⟩
  refine dM ha ?_
  skip
  refine aB ?_ ?_ <;> intro hb
  ·refine ah (cW).k ?_
   exact (by rw [Sq (by omega) ‹_› ‹_›];rfl)
  ·refine dM hz ?_
   skip
   exact (by rw [Sr (by omega) ‹_› ‹_› ‹_›];rfl)
theorem me (k:cE) (ag:Int):aF Tryz.prog 473 [A (ia k),I ag] (RG [.a (iF ((ask k ag).getD bE)), .c (.v (.bool (ask k ag).isSome))]):=by
 refine aF.w 34 Tryz.func473 fun w g0 hM=> ?_
 have eW:=hM.1.1.map
 have F3:=hM.1.2.1.map
 refine len ?_
 refine ah (bM _ _).k ?_
 refine aB ?_ ?_ <;> intro YO
 ·refine ah (eS).k ?_
  exact (by rw [QO (by omega)];rfl)
 ·refine len ?_
  refine ah (bM _ _).k ?_
  refine aB ?_ ?_ <;> intro Y0
  ·refine ah (eS).k ?_
   exact (by rw [QO (by omega)];rfl)
  ·obtain ⟨a,ha⟩:∃ a,k.cG[ag.toNat]? = some a:=⟨_,bg (by omega)⟩
   obtain ⟨z,hz⟩:∃ z,k.dQ[ag.toNat]? = some z:=⟨_,bg (by omega)⟩
   refine dM ha ?_
   skip
   refine aB ?_ ?_ <;> intro hb
   ·refine ah (eS).k ?_
    exact (by rw [Sq (by omega) ‹_› ‹_›];rfl)
   ·refine dM hz ?_
    skip
    exact (by rw [Sr (by omega) ‹_› ‹_› ‹_›];rfl)
theorem n_ (k:cE) (inner:List aQ) (outer:List aQ) (ag:Int) [Q (dR k)]:aF Tryz.prog 460 [A (ia k),L 2 (inner.map aT),L 2 (outer.map aT),I ag] (RG [.a (ia (eX k inner outer ag))]):=by
 refine aF.w 35 Tryz.func460 fun w g0 hM=> ?_
 have hkq:∀ h:fk k ag=false,¬ (0 ≤ ag∧ag < k.cG.length∧ag < k.dQ.length):=fun h=>by simpa [fk] using h
 have eW:=hM.2.1.map
 have F3:=hM.1.1.map
 have Y2:=hM.1.2.1.map
 refine an (lY k).k ?_
 refine ah (uc k ag).k ?_
 refine aB ?_ ?_ <;> intro gK
 ·refine len ?_
  refine aB ?_ ?_ <;> intro hb
  ·have hkp:0 ≤ ag∧ag < k.cG.length∧ag < k.dQ.length:=by simpa [fk] using (by assumption:fk k ag=true)
   obtain ⟨s,hs⟩:∃ s,inner[ag.toNat]? = some s:=⟨_,bg (by omega)⟩
   refine bl ?_
   refine sn (fun z1 XP XQ XR=> ?_)
   refine gp [10] [10] [] (.quiet 2 1 (.quiet 3 1 (.quiet 4 1 (.quiet 7 1 (.quiet 0 0 (.quiet 1 0 (.quiet 5 0 (.quiet 6 0 (.fa 8 (.quiet 9 0 (.fa 10 .done))))))))))) ?_
   repeat' first|exact True.intro|refine And.intro ?_ ?_|(intro _ _)|refine dM hs ?_|refine sn (fun z2 hz2 qz2 lz2=> ?_)|refine ah (AH s outer).k ?_|refine bl ?_
   exact (by rw [OR (by omega) hs];rfl)
  ·exact (by rw [B4 (by right;omega)];rfl)
 ·exact (by rw [B4 (.inl (hkq ‹_›))];rfl)
theorem oa (k:cE) (inner:List aQ) (outer:List aQ) (ag:Int) [Q (dR k)]:aF Tryz.prog 474 [A (ia k),L 2 (inner.map aT),L 2 (outer.map aT),I ag] (RG [.a (ia (eX k inner outer ag))]):=by
 refine aF.w 45 Tryz.func474 fun w g0 hM=> ?_
 have eW:=hM.2.1.map
 have F3:=hM.1.1.map
 have Y2:=hM.1.2.1.map
 refine an (k_ k).k ?_
 refine len ?_
 refine ah (bM _ _).k ?_
 refine aB ?_ ?_ <;> intro Py
 ·refine len ?_
  refine ah (bM _ _).k ?_
  refine aB ?_ ?_ <;> intro Y3
  ·refine len ?_
   refine ah (bM _ _).k ?_
   refine aB ?_ ?_ <;> intro hb
   ·obtain ⟨s,hs⟩:∃ s,inner[ag.toNat]? = some s:=⟨_,bg (by omega)⟩
    refine bl ?_
    refine sn (fun z1 XP XQ XR=> ?_)
    refine gp [10] [10] [] (.quiet 2 1 (.quiet 3 1 (.quiet 4 1 (.quiet 7 1 (.quiet 0 0 (.quiet 1 0 (.quiet 5 0 (.quiet 6 0 (.fa 8 (.quiet 9 0 (.fa 10 .done))))))))))) ?_
    repeat' first|exact True.intro|refine And.intro ?_ ?_|(intro _ _)|refine dM hs ?_|refine sn (fun z2 hz2 qz2 lz2=> ?_)|refine ah (AI s outer).k ?_|refine bl ?_
    exact (by rw [OR (by omega) hs];rfl)
   ·exact (by (rw [B4 (by right;omega)];rfl))
  ·exact (by rw [B4 (by left;omega)];rfl)
 ·exact (by rw [B4 (by left;omega)];rfl)
theorem Dc (k:cE) [Q (dR k)]:aF Tryz.prog 433 [A (ia k)] (RG [.a (ia (iQ k))]):=by
 refine aF.w 17 Tryz.func433 fun w g0 _=> ?_
 refine an (lY k).k ?_
 refine ck [1,2] [] [1,5] (fun (i:Nat)=>[.set 3 (I i)]) (fun (i:Nat)=>[(1,⟨true,[.own (.sl 1 ((gQ k (dn HK i)).cG.map bO)), .own (.sl 2 ((gQ k (dn HK i)).dQ.map aT))]⟩)]) (fun (i:Nat)=>i ≤ k.cG.length) (fun (i:Nat)=>k.cG.length - i) (0) (bG _) ?_
 refine ⟨(hda (by repeat' first|exact rfl|constructor)),fun i hyp N1 bq=> ?_⟩
 have hyp:i ≤ k.cG.length:=hyp
 have Nb:=(inferInstance:cX k.cG 1048576).h
 have hlk:= @vN (dn HK i) k
 refine len ?_
 refine aB ?_ ?_ <;> intro hb
 refine an (uf (gQ k (dn HK i)) i).k ?_
 refine cg ?_
 refine bq _ _ _ ?_
 refine hY (i + 1) (by omega) (by repeat' first|exact rfl|constructor|(refine dL ?_;rw [Ss];done))
 refine bq _ _ _ ?_
 exact (by rw [WQ (i:=i) (by omega)];rfl)
theorem Dd (k:cE) [Q (dR k)]:aF Tryz.prog 93 [A (ia k)] (RG [.a (ia (iQ k))]):=by
 refine aF.w 18 Tryz.func93 fun w g0 _=> ?_
 refine an (k_ k).k ?_
 refine len ?_
 refine ck [2,3,9] [] [3,6] (fun (i:Nat)=>[.set 10 (I i)]) (fun (i:Nat)=>[(3,⟨true,[.own (.sl 1 ((gQ k (dn HK i)).cG.map bO)), .own (.sl 2 ((gQ k (dn HK i)).dQ.map aT))]⟩)]) (fun (i:Nat)=>i ≤ k.cG.length) (fun (i:Nat)=>k.cG.length - i) (0) (bG _) ?_
 refine ⟨(hda (by repeat' first|exact rfl|constructor)),fun i hyp N1 bq=> ?_⟩
 have hyp:i ≤ k.cG.length:=hyp
 have Nb:=(inferInstance:cX k.cG 1048576).h
 have hlk:= @vN (dn HK i) k
 refine aB ?_ ?_ <;> intro hb
 refine an (ud (gQ k (dn HK i)) i).k ?_
 refine cg ?_
 refine bq _ _ _ ?_
 refine hY (i + 1) (by omega) (by repeat' first|exact rfl|constructor|(refine dL ?_;rw [Ss];done))
 refine bq _ _ _ ?_
 exact (by rw [WQ (i:=i) (by omega)];rfl)
end
end Go.Proofs.YtdliggkohdnipaaGreat.T
