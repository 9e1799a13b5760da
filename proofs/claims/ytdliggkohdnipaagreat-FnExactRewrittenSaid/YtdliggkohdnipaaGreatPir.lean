import Derived.Test.YtdliggkohdnipaaGreatRpr
import Derived.Test.YtdliggkohdnipaaGreatNwr
set_option linter.unusedVariables false
set_option linter.unusedSimpArgs false
namespace Go.Proofs.YtdliggkohdnipaaGreat.T
open Go
section
variable {c:Code} {P:Program}
def St.tail (st:St) (k t sz:Nat) (ds:List D):St:=
 ((st.kill (zG k) (zG k)).cq k ⟨false,[.own (.sl sz ds)]⟩).put (some t) (.one (.c (.ref ⟨k,[],0⟩)))
section
variable {P:Program} {w0:World} {g0:Gh} {st:St} {a:Act} {w:World} {g:Gh}
theorem Rel.tail (hR:Rel w0 g0 st a w g) {k t sz i:Nat} {ds:List D} (ht:st.tmps[t]? = some (.one (.cut ⟨k,[],0⟩ sz i ds.length))) (gk:st.root k=some ⟨false,[.own (.sl sz ds)]⟩) (hkp:k < 1000000) (hds:∀ d ∈ ds,gZ d):
  ∃ g',Rel w0 g0 (st.tail k t sz (ds.drop i)) a w g':=by
 have hu:=hR.tm t _ ht
 have hO:Ow w g k [] 0 (.sl sz ds):=hR.rt.cell k _ gk 0 (.own (.sl sz ds)) rfl
 generalize hut:a.tmps.getD t undef=u at hu
 cases hu with
 | one _ _ hu=>
  cases hu with
  | cut _ _ _ _ b off n c hc h1 h2 h3=>
   have hc:g.cv k [] 0= .slice (some ⟨b,off,none⟩) n c:=hc
   cases hO with
   | nil _ _ _ Cf=>rw [Cf] at hc;cases hc
   | sl _ _ _ _ b' off' n' c' cs e Cf hn hm hnc uA ho hb hfit hrow had hcell hel=>
    rw [Cf] at hc
    simp only [Value.slice.injEq,Option.some.injEq,Addr.mk.injEq] at hc
    obtain ⟨⟨rfl,rfl,_⟩,rfl,rfl⟩:=hc
    let g':Gh:={ g with
     cv:=fun k' p' q'=>if k'=k then (match p' with| []=> .slice (some ⟨b',off' + i * sz,none⟩) (ds.length - i) (c' - i)|(_,j) :: r=>g.cv k ((0,j + i) :: r) q') else g.cv k' p' q'
     ad:=fun k' p'=>if k'=k then (match p' with| []=>g.ad k []|(_,j) :: r=>g.ad k ((0,j + i) :: r)) else g.ad k' p' }
    have fL:∀ k' p' q',k' ≠ k→g'.cv k' p' q'=g.cv k' p' q':=fun k' p' q' h=>if_neg h
    have JV:∀ k' p',k' ≠ k→g'.ad k' p'=g.ad k' p':=fun k' p' h=>if_neg h
    have hel':∀ j q',g'.cv k [(0,j)] q'=g.cv k [(0,j + i)] q':=fun j q'=>by simp [g']
    have had':∀ j,g'.ad k [(0,j)]=g.ad k [(0,j + i)]:=fun j=>by simp [g']
    have hnil:g'.cv k [] 0= .slice (some ⟨b',off' + i * sz,none⟩) (ds.length - i) (c' - i):=by simp [g']
    have hA:oD w g w g' (zG k) (zG k):=⟨fun b hb=>⟨hb,rfl⟩,fun pl hp=>fL _ _ _ (by simpa [zG] using hp),fun pl hp=>JV _ _ (by simpa [zG] using hp)⟩
    have V9:Ow w g' k [] 0 (.sl sz (ds.drop i)):=by
     refine .sl [] 0 sz _ b' (off' + i * sz) (ds.length - i) (c' - i) cs e hnil (by simp) (by omega) (by omega) (by omega) ho hb ?_ (fun d hd=>hrow d (List.mem_of_mem_drop hd)) (fun j hj=> ?_) (fun j q hj hq=> ?_) (fun j d hd q c2 hq=> ?_)
     have:off' + i * sz + (c' - i) * sz=off' + c' * sz:=by rw [Nat.add_assoc, ← Nat.add_mul];congr 2;omega
     omega
     show g'.ad k [(0,j)]=_
     rw [had']
     have:=had (j + i) (by omega)
     simp only [List.nil_append] at this
     rw [this,Nat.add_mul]
     congr 1
     omega
     show _=some (g'.cv k [(0,j)] q)
     rw [hel']
     have:=hcell (j + i) q (by omega) hq
     simp only [List.nil_append] at this
     rw [← this]
     congr 2
     rw [Nat.add_mul]
     omega
     have pH:ds[j + i]? = some d:=by rw [List.getElem?_drop] at hd;rwa [Nat.add_comm]
     obtain ⟨x,rfl⟩:=hds d (List.mem_of_getElem? pH) c2 (List.mem_of_getElem? hq)
     have:=hel (j + i) d pH q _ hq
     cases this with
     | v _ _ _ hx lA=>
      refine .v _ _ x hx ?_
      show g'.cv k [(0,j)] q=x
      rw [hel']
      exact lA
    have UT:∀ k' r',((st.kill (zG k) (zG k)).cq k ⟨false,[.own (.sl sz (ds.drop i))]⟩).root k'=some r'→(k'=k∧r'=⟨false,[.own (.sl sz (ds.drop i))]⟩) ∨ (k' ≠ k∧∃ r1,st.root k'=some r1∧r'=r1.kill (zG k)):=fun k' r' h=>by
     rw [St.c7] at h
     split at h
     rename_i e1
     simp only [Option.some.injEq] at h
     exact .inl ⟨e1,h.symm⟩
     rename_i e1
     rw [St.jl,Option.map_eq_some_iff] at h
     obtain ⟨r1,h1,h2⟩:=h
     exact .inr ⟨e1,r1,h1,h2.symm⟩
    have hU:Rel w0 g0 ((st.kill (zG k) (zG k)).cq k ⟨false,[.own (.sl sz (ds.drop i))]⟩) a w g':=by
     refine hR.change hA rfl ⟨fun k' r' hk' q c Cf=> ?_,fun k' r' hk' hm=> ?_⟩ ?_
     rcases UT k' r' hk' with ⟨rfl,rfl⟩|⟨h1,r1,h3,rfl⟩
     match q,Cf with
     | 0,Cf=>
      cases Cf
      exact V9
     | q + 1,Cf=>simp at Cf
     simp only [Rt.kill,List.getElem?_map,Option.map_eq_some_iff] at Cf
     obtain ⟨c1,h4,rfl⟩:=Cf
     have h5:=hR.rt.cell k' r1 h3 q c1 h4
     cases c1 with
     | ro d=>show Ro w g'.o d _;rw [fL _ _ _ h1];exact Ro.mono hA.ro h5
     | own d=>exact Ow.move (g':=g') h5 ⟨fL _ _ _ h1,fun i r q'=>fL _ _ _ h1,fun i r=>JV _ _ h1,fun b hb=>⟨hb,rfl⟩,fun b i r q' hb=>⟨hb,rfl⟩⟩
     | ref pl=>
      have h6:g.cv k' [] q=g.cv pl.k pl.p pl.q∧(g.cv k' [] q).oneCell'=true:=h5
      simp only [C.kill]
      by_cases e:pl.k=k
      rw [if_pos (by simpa [zG] using e)];trivial
      rw [if_neg (by simpa [zG] using e)]
      show g'.cv k' [] q=g'.cv pl.k pl.p pl.q∧(g'.cv k' [] q).oneCell'=true
      rw [fL _ _ _ h1,fL _ _ _ e]
      exact h6
     | dead=>trivial
     rcases UT k' r' hk' with ⟨rfl,rfl⟩|⟨h1,r1,h3,rfl⟩
     cases hm
     obtain ⟨m1,m2,m3⟩:=hR.rt.mem k' r1 h3 (by simpa [Rt.kill] using hm)
     have e1:g'.ad k' []=g.ad k' []:=JV _ _ h1
     refine ⟨by rw [e1];exact m1,by rw [e1];exact m2,fun q hq=> ?_⟩
     rw [e1,fL _ _ _ h1]
     exact m3 q (by simpa [Rt.kill] using hq)
     have hk:=hR.ks
     refine ⟨hk.os,hk.tape,hk.output,hk.size,hk.block,hk.fresh,hk.old,⟨fun q=> ?_, ?_⟩,hk.ie⟩
     rw [fL cm _ _ (by simp only [cm];omega)];exact hk.uB.1 q
     rw [JV dN _ (by simp only [dN];omega)];exact hk.uB.2
    refine ⟨g',⟨fun j tv hj=> ?_, ?_,hU.df,hU.rt,hU.ks⟩⟩
    simp only [St.tail,St.put] at hj
    by_cases e1:t=j
    subst e1
    have hlt:t < (st.kill (zG k) (zG k)).tmps.length:=by
     have:=(List.getElem?_eq_some_iff.1 ht).1
     simpa [St.kill] using this
    have h5:((st.kill (zG k) (zG k)).tmps.set t (TS.one (TV.c (C.ref ⟨k,[],0⟩))))[t]? = some (TS.one (TV.c (C.ref ⟨k,[],0⟩))):=List.getElem?_set_self hlt
    have h6:some (TS.one (TV.c (C.ref ⟨k,[],0⟩)))=some tv:=h5.symm.trans hj
    simp only [Option.some.injEq] at h6
    subst h6
    rw [hut]
    exact .one _ _ (.c _ _ ⟨hnil.symm,rfl⟩)
    have h5:((st.kill (zG k) (zG k)).tmps.set t (TS.one (TV.c (C.ref ⟨k,[],0⟩))))[j]? = (st.kill (zG k) (zG k)).tmps[j]? :=List.getElem?_set_ne e1
    exact hU.tm j tv (h5.symm.trans hj)
    have:=hU.sz
    simp only [St.tail,St.put,List.length_set]
    exact this
end
def YH (rs:Rs) (k sz:Nat) (ds:List D):Rs:=(((⟨[],rs⟩:St).kill (zG k) (zG k)).cq k ⟨false,[.own (.sl sz ds)]⟩).roots
inductive YI (ds:List D) (i hi:Nat) (k:List D→Prop):Prop
 | mk (l:List D) (hds:∀ d ∈ ds,gZ d) (hh:hi=ds.length) (hl:ds.drop i=l) (c:k l)
def QR (n t:Nat) (e:List En) (rs:Rs) (K:Kn):Prop:=Oq n e t fun s=>match s with
 | .one (.cut pl sz lo hi)=>(match pl with
  | ⟨k,p,q⟩=>BR (p.isEmpty && Nat.beq q 0 && Nat.blt k 1000000) (Mx rs k fun sz' ds=>BR (Nat.beq sz sz') (YI ds lo hi fun l=>j4 k rs (YH rs k sz l) fun rs=>K (.set t (.one (.c (.ref ⟨k,[],0⟩))) :: .app (TS.kill (zG k) (zG k)) :: e) rs) False) False)
 | _=>False
theorem UU {n t:Nat} {e:List En} {rs:Rs} {K:Kn} (h:QR n t e rs K):∃ e' fq,Can (aR n e rs) (aR n e' fq)∧K e' fq:=by
 obtain ⟨s,h1,h2⟩:=wI (rs:=rs) h
 split at h2
 rename_i pl sz lo hi
 obtain ⟨k,p,q⟩:=pl
 simp only at h2
 obtain ⟨h3,h4⟩:=bG h2
 simp only [Bool.and_eq_true,List.isEmpty_iff] at h3
 obtain ⟨⟨rfl,h5⟩,h6⟩:=h3
 have h5:=Nat.eq_of_beq_eq_true h5
 subst h5
 obtain ⟨sz',ds,h7,h8⟩:=Ad (n:=n) (e:=e) h4
 obtain ⟨h9,kU⟩:=bG h8
 have h9:=Nat.eq_of_beq_eq_true h9
 subst h9
 obtain ⟨l,hds,hh,hl,hc⟩:=kU
 subst hh;subst hl
 refine ⟨_,_,fun hR=> ?_,gz hc⟩
 obtain ⟨g',oW⟩:=hR.tail h1 h7 (Nat.le_of_ble_eq_true h6) hds
 refine ⟨g', ?_⟩
 have e1:(aR n e rs).tail k t sz (ds.drop lo)=aR n (.set t (.one (.c (.ref ⟨k,[],0⟩))) :: .app (TS.kill (zG k) (zG k)) :: e) (YH rs k sz (ds.drop lo)):=by
  rw [← Ey, ← iq (rs:=rs)]
  rfl
 rwa [← e1]
 exact h2.elim
def endT (P:Program) (n t:Nat) (rv:List ResultVar) (R:mR→Prop):Kx:=fun ex e rs=>match ex with
 | .normal=>QR n t e rs (RN P n rv R)
 | .ret=>QR n t e rs (RN P n rv R)
 | _=>False
theorem TC.canEnd {w0:World} {g0:Gh} {st:St} {Q Q':Exit→St→Prop} (h:TC P w0 g0 c st Q) (hq:∀ ex st,Q ex st→∃ bD,Can st bD∧Q' ex bD):TC P w0 g0 c st Q':=fun a w g hR=>
 wp_mono (h a w g hR) fun e a' w' ⟨Sr,g1,h1,h2⟩=>by
  obtain ⟨wB,h3,h4⟩:=hq e Sr h1
  obtain ⟨g2,h5⟩:=h3 h2
  exact ⟨wB,g2,h4,h5⟩
theorem aF.wT {f:FuncId} {fn:Func} {pts:List TS} {R:mR→Prop} (n t:Nat) (hf:P.funcs[f]? = some fn) (h:∀ w g0,iI pts→qF 0 pts fun e=>wC P w g0 n c e [] (endT P n t fn.results.toList R)) 
  (hb:fn.body=some c:=by exact rfl) (hn:fn.ntmps=n:=by exact rfl) (eK:Nat.ble pts.length n=true:=by exact rfl):aF P f pts R:=by
 have hl:=Nat.le_of_ble_eq_true eK
 subst hn
 refine aF.of hf hb hl fun w g0=>TC.iI fun hM=> ?_
 obtain ⟨e,h1,h2⟩:=iR (m:=0) (h w g0 hM)
 rw [kW hl h1]
 refine (mJ h2).canEnd fun ex st ⟨e,rs,hst,hk⟩=> ?_
 subst hst
 have key:QR fn.ntmps t e rs (RN P fn.ntmps fn.results.toList R)→∀ ex,(ex= .normal ∨ ex= .ret)→∃ bD,Can (aR fn.ntmps e rs) bD∧Ends P fn R ex bD:=fun hk ex hex=>by
  obtain ⟨e',fq,hc,h3⟩:=UU hk
  refine ⟨_,hc, ?_⟩
  have:Lf fn.ntmps (Kh P fn.ntmps fn.results.toList R) ex (aR fn.ntmps e' fq):=⟨e',fq,rfl,by rcases hex with rfl|rfl <;> exact h3⟩
  exact tQ this
 unfold endT at hk
 split at hk
 exact key hk _ (.inl rfl)
 exact key hk _ (.inr rfl)
 exact hk.elim
theorem tlp {ds:List D} {i hi:Nat} {k:List D→Prop} (l:List D) [h:PL ds] (c:k l) (hh:hi=ds.length:=by rfl) (hl:ds.drop i=l:=by rfl):YI ds i hi k:=⟨l,h.w,hh,hl,c⟩
end
section
variable {a:Bool} {p ag t:Int} {b:List bt} {inner outer:List aL} {i:Nat} {y:bt} {k:bQ}
set_option maxRecDepth 100000
set_option maxHeartbeats 8000000
section
variable {α:Type} {p: α→Bool} {b:List α} {i:Nat} {y: α}
theorem UW (h:(b.take i).find? p=none) (hy:b[i]? = some y) (hp:p y=true):b.find? p=some y:=by
 obtain ⟨hi,he⟩:=List.getElem?_eq_some_iff.1 hy
 have hd:b.drop i=y :: b.drop (i + 1):=by rw [List.drop_eq_getElem_cons hi,he]
 have e:b.find? p=(b.take i ++ b.drop i).find? p:=by rw [List.take_append_drop]
 rw [e,List.find?_append,h,hd,List.find?_cons,hp]
 rfl
theorem D3 (h:(b.take i).find? p=none) (hy:b[i]? = some y) (hp:p y=false):(b.take (i + 1)).find? p=none:=by
 rw [List.take_add_one,hy,List.find?_append,h]
 show List.find? p [y]=none
 rw [List.find?_cons,hp]
 rfl
theorem UX (h:(b.take i).find? p=none) (hi:b.length ≤ i):b.find? p=none:=by rwa [List.take_of_length_le hi] at h
end
theorem KY (h:y.Tag=t) (h1:y.aJ=p):jQ t p y=true:=by unfold jQ;rw [decide_eq_true h,decide_eq_true h1];rfl
theorem FZ (h:¬ y.Tag=t ∨ ¬ y.aJ=p):jQ t p y=false:=by
 unfold jQ
 rcases h with h|h
 rw [decide_eq_false h];rfl
 rw [decide_eq_false h,Bool.and_false]
theorem F0 {b:List bt} {t p:Int}:(bM b t p).length ≤ b.length:=List.length_filter_le _ _
theorem UY (hy:b[i]? = some y) (h:¬ y.Tag=t ∨ ¬ y.aJ=p):(bM (b.take (i + 1)) t p).map aA=(bM (b.take i) t p).map aA ++ [aA y]:=by
 unfold bM
 rw [List.take_add_one,hy,List.filter_append,List.map_append]
 simp [FZ h]
theorem fp_no (hy:b[i]? = some y) (h:y.Tag=t) (h1:y.aJ=p):(bM (b.take (i + 1)) t p).map aA=(bM (b.take i) t p).map aA:=by
 unfold bM
 rw [List.take_add_one,hy,List.filter_append,List.map_append]
 simp [KY h h1]
instance (b:List bt) (t p:Int) (n:Nat) [h:dc b n]:dc (bM b t p) n:=⟨Nat.le_trans F0 h.h⟩
theorem R4 {e:bt} (h:¬ 6 < ((bM b e.Tag e.aJ).length:Int) + 1):gC b e=bM b e.Tag e.aJ ++ [e]:=by
 unfold gC
 rw [show (bM b e.Tag e.aJ).length + 1 - 6=0 by omega]
 rfl
theorem Pf (h:¬ (0 ≤ ag∧ag < k.bY.length∧ag < k.c8.length)):ask k ag=none:=by
 unfold ask eH
 rw [decide_eq_false h]
 rfl
theorem UZ (h:0 ≤ ag∧ag < k.bY.length∧ag < k.c8.length) (ha:k.bY[ag.toNat]? = some a):ask k ag=if a=true then kS k.c8 ag else none:=by
 unfold ask eH
 rw [decide_eq_true h,oL h.1 ha]
 rfl
theorem QS (h:0 ≤ ag∧ag < k.bY.length∧ag < k.c8.length) (ha:k.bY[ag.toNat]? = some a) (h1:a=false):ask k ag=none:=by rw [UZ h ha,h1];rfl
theorem QT {z:aL} (h:0 ≤ ag∧ag < k.bY.length∧ag < k.c8.length) (ha:k.bY[ag.toNat]? = some a) (h1:a=true) (hz:k.c8[ag.toNat]? = some z):ask k ag=some z:=by rw [UZ h ha,if_pos h1,oL h.1 hz]
theorem AL (h:¬ (0 ≤ ag∧ag < k.bY.length∧ag < k.c8.length) ∨ ¬ (0 ≤ ag∧ag < inner.length)):eg k inner outer ag=k:=by
 unfold eg
 cases hs:kS inner ag with
 | none=>rfl
 | some s=>
  rcases h with h|h
  unfold eH
  rw [decide_eq_false h]
  rfl
  rw [nR h] at hs;cases hs
theorem Ni {s:aL} (h:0 ≤ ag∧ag < k.bY.length∧ag < k.c8.length) (hs:inner[ag.toNat]? = some s):
  fU (eg k inner outer ag)=[.sl 1 ((k.bY.map bz).set ag.toNat (bz true)), .sl 2 ((k.c8.map aQ).set ag.toNat (aQ (eX s outer)))]:=by
 unfold eg eH
 rw [oL h.1 hs,decide_eq_true h]
 show fU ⟨put k.bY ag true,put k.c8 ag (eX s outer)⟩=_
 rw [tX h.1,tX h.1, ← List.map_set, ← List.map_set]
theorem ownE {kl:List Nat} {k sz:Nat} {ds l:List D} {e:List En} {rs:Rs} {K:Kn} (h:ds=l) (hk:J6 kl k sz l e rs K):J6 kl k sz ds e rs K:=h ▸ hk
abbrev F1:Nat→Bool:=fun _=>true
theorem QU:gh k (cz F1 (i + 1))=forget (gh k (cz F1 i)) i:=by
 rw [eG]
 unfold gh
 rw [if_pos rfl,List.foldl_append]
 rfl
theorem KZ:(forget k p).bY.length=k.bY.length:=by
 unfold forget
 split
 exact ol
 rfl
theorem ul:∀ {l:List Int} {k:bQ},(gh k l).bY.length=k.bY.length
 | [],k=>rfl
 | p :: l,k=>by show (gh (forget k p) l).bY.length=_;rw [ul,KZ]
theorem U0 (h:i=k.bY.length):h_ k=gh k (cz F1 i):=by subst h;rfl
theorem YJ (hy:b[i]? = some y):(bM (b.take (i + 1)) t p).map aA=if jQ t p y=true then (bM (b.take i) t p).map aA else (bM (b.take i) t p).map aA ++ [aA y]:=by
 unfold bM
 rw [List.take_add_one,hy,List.filter_append,List.map_append]
 cases h:jQ t p y <;> simp [h]
theorem tc (b:List bt) (t:Int) (p:Int):aF Tryz.prog 457 [L 4 (b.map aA),I t,I p] (RG [.a (nQ ((cK b t p).getD MG)), .c (.v (.bool (cK b t p).isSome))]):=by
 refine aF.w 36 Tryz.func457 fun w g0 hM=> ?_
 have eK:=hM.1.map
 refine cI [0,1,2,6] [] [] (fun (i:Nat)=>[.set 8 (I i)]) (fun (i:Nat)=>[]) (fun (i:Nat)=>i ≤ b.length∧(b.take i).find? (jQ t p)=none) (fun (i:Nat)=>b.length - i) (0) (⟨Nat.zero_le _,rfl⟩) ?_
 refine ⟨hda,fun i hyp N1 bw=> ?_⟩
 have hyp:i ≤ b.length∧(b.take i).find? (jQ t p)=none:=hyp
 have MJ:=hyp.1
 refine len ?_
 refine aB ?_ ?_ <;> intro hb
 ·obtain ⟨y,hy⟩:∃ y,b[i]? = some y:=⟨_,List.getElem?_eq_getElem (by omega)⟩
  refine fN hy ?_
  skip
  refine aB ?_ ?_ <;> intro Hw
  ·refine fN hy ?_
   skip
   refine aB ?_ ?_ <;> intro gY
   ·refine fN hy ?_
    skip
    refine bw _ _ _ ?_
    exact (by rw [cK,UW hyp.2 hy (KY (by assumption) (by assumption))];rfl)
   ·refine cD ?_
    refine bw _ _ _ ?_
    refine iF (i + 1) (⟨by omega,D3 hyp.2 hy (FZ (by right;assumption))⟩)
  ·refine cD ?_
   refine bw _ _ _ ?_
   refine iF (i + 1) (⟨by omega,D3 hyp.2 hy (FZ (by left;assumption))⟩)
 ·refine bw _ _ _ ?_
  exact (by rw [cK,UX hyp.2 (by omega)];rfl)
theorem tf (b:List bt) (t:Int) (p:Int):aF Tryz.prog 472 [L 4 (b.map aA),I t,I p] (RG [.a (nQ ((cK b t p).getD MG)), .c (.v (.bool (cK b t p).isSome))]):=by
 refine aF.w 29 Tryz.func472 fun w g0 hM=> ?_
 have eK:=hM.1.map
 refine len ?_
 refine cI [1,2,6,10,11] [] [] (fun (i:Nat)=>[.set 12 (I i)]) (fun (i:Nat)=>[]) (fun (i:Nat)=>i ≤ b.length∧(b.take i).find? (jQ t p)=none) (fun (i:Nat)=>b.length - i) (0) (⟨Nat.zero_le _,rfl⟩) ?_
 refine ⟨hda,fun i hyp N1 bw=> ?_⟩
 have hyp:i ≤ b.length∧(b.take i).find? (jQ t p)=none:=hyp
 have MJ:=hyp.1
 refine aB ?_ ?_ <;> intro hb
 ·obtain ⟨y,hy⟩:∃ y,b[i]? = some y:=⟨_,List.getElem?_eq_getElem (by omega)⟩
  refine fN hy ?_
  skip
  refine aB ?_ ?_ <;> intro Kr
  ·refine aB ?_ ?_ <;> intro gY
   ·refine bw _ _ _ ?_
    exact (by rw [cK,UW hyp.2 hy (KY (by assumption) (by assumption))];rfl)
   ·refine cD ?_
    refine bw _ _ _ ?_
    refine iF (i + 1) (⟨by omega,D3 hyp.2 hy (FZ (by right;assumption))⟩)
  ·refine cD ?_
   refine bw _ _ _ ?_
   refine iF (i + 1) (⟨by omega,D3 hyp.2 hy (FZ (by left;assumption))⟩)
 ·refine bw _ _ _ ?_
  exact (by rw [cK,UX hyp.2 (by omega)];rfl)
theorem nX (b:List bt) (t:Int) (p:Int) [Q (dh b)]:aF Tryz.prog 347 [L 4 (b.map aA),I t,I p] (RL 4 ((bM b t p).map aA)):=by
 refine aF.w 40 Tryz.func347 fun w g0 hM=> ?_
 have eK:=hM.1.map
 refine cI [0,1,2,6,7] [7] [7] (fun (i:Nat)=>[.set 8 (I i)]) (fun (i:Nat)=>[(7,⟨false,[.own (.sl 4 ((bM (b.take i) t p).map aA))]⟩)]) (fun (i:Nat)=>i ≤ b.length) (fun (i:Nat)=>b.length - i) (0) (Nat.zero_le _) ?_
 refine ⟨hda,fun i hyp N1 bw=> ?_⟩
 have hyp:i ≤ b.length:=hyp
 have hfl:= @F0 (b.take i) t p
 have LG:(b.take i).length ≤ b.length:=by rw [List.length_take];omega
 have hbl:=(inferInstance:dc b 1048576).h
 refine len ?_
 refine aB ?_ ?_ <;> intro hb
 ·obtain ⟨y,hy⟩:∃ y,b[i]? = some y:=⟨_,List.getElem?_eq_getElem (by omega)⟩
  refine fN hy ?_
  skip
  refine aB ?_ ?_ <;> intro Hw
  ·refine fN hy ?_
   skip
   refine cB ?_
   refine cD ?_
   refine bw _ _ _ ?_
   refine iF (i + 1) (by omega) (by repeat' first|exact rfl|refine And.intro ?_ ?_|exact True.intro|(refine eV ?_;rw [UY hy (by left;assumption)];done))
  ·refine fN hy ?_
   skip
   refine aB ?_ ?_ <;> intro gY
   ·refine fN hy ?_
    skip
    refine cB ?_
    refine cD ?_
    refine bw _ _ _ ?_
    refine iF (i + 1) (by omega) (by repeat' first|exact rfl|refine And.intro ?_ ?_|exact True.intro|(refine eV ?_;rw [UY hy (by right;assumption)];done))
   ·refine cD ?_
    refine bw _ _ _ ?_
    refine iF (i + 1) (by omega) (by repeat' first|exact rfl|refine And.intro ?_ ?_|exact True.intro|(refine eV ?_;rw [fp_no hy (by assumption) (by assumption)];done))
 ·refine bw _ _ _ ?_
  exact (by rw [List.take_of_length_le (by omega)];rfl)
theorem AM (e:bt) (t p:Int):aF Tryz.prog 401 [A (nQ e), .one (.bV [.v (.int .i64 t)]), .one (.bV [.v (.int .i64 p)])] (RV (.bool (jQ t p e))):=by
 refine aF.w 15 Tryz.func401 fun w g0 _=> ?_
 refine aB ?_ ?_ <;> intro Kr
 exact ay (by refine congrArg Value.bool ?_;rw [Bool.eq_iff_iff];simp [jQ, *];done)
 exact ay (by simp [jQ, *];done)
theorem zi (b:List bt) (t:Int) (p:Int) [Q (dh b)]:aF Tryz.prog 400 [L 4 (b.map aA), .fn 401 [.bV [.v (.int .i64 t)], .bV [.v (.int .i64 p)]]] (RL 4 ((bM b t p).map aA)):=by
 refine aF.w 25 Tryz.func400 fun w g0 hM=> ?_
 have eK:=hM.1.map
 refine len ?_
 refine cI [1,4,5,9,10] [5] [5] (fun (i:Nat)=>[.set 11 (I i)]) (fun (i:Nat)=>[(5,⟨false,[.own (.sl 4 ((bM (b.take i) t p).map aA))]⟩)]) (fun (i:Nat)=>i ≤ b.length) (fun (i:Nat)=>b.length - i) (0) (Nat.zero_le _) ?_
 refine ⟨hda,fun i hyp N1 bw=> ?_⟩
 have hyp:i ≤ b.length:=hyp
 have hfl:= @F0 (b.take i) t p
 have LG:(b.take i).length ≤ b.length:=by rw [List.length_take];omega
 have hbl:=(inferInstance:dc b 1048576).h
 refine aB ?_ ?_ <;> intro hb
 ·obtain ⟨y,hy⟩:∃ y,b[i]? = some y:=⟨_,List.getElem?_eq_getElem (by omega)⟩
  refine fN hy ?_
  skip
  refine T8 (AM y t p).k ?_
  refine aB ?_ ?_ <;> intro gY
  ·refine cB ?_
   refine cD ?_
   refine bw _ _ _ ?_
   refine iF (i + 1) (by omega) (by repeat' first|exact rfl|refine And.intro ?_ ?_|exact True.intro|(refine eV ?_;rw [YJ hy,if_neg (by simp [*])];done))
  ·refine cD ?_
   refine bw _ _ _ ?_
   refine iF (i + 1) (by omega) (by repeat' first|exact rfl|refine And.intro ?_ ?_|exact True.intro|(refine eV ?_;rw [YJ hy,if_pos (by assumption)];done))
 ·refine bw _ _ _ ?_
  exact (by rw [List.take_of_length_le (by omega)];rfl)
theorem nY (b:List bt) (t:Int) (p:Int) [Q (dh b)]:aF Tryz.prog 276 [L 4 (b.map aA),I t,I p] (RL 4 ((bM b t p).map aA)):=by
 refine aF.w 10 Tryz.func276 fun w g0 _=> ?_
 refine bk (zi b t p).k ?_
 exact rfl
theorem mq (b:List bt) (e:bt) [Q (dh b)]:aF Tryz.prog 316 [L 4 (b.map aA),A (nQ e)] (RL 4 ((gC b e).map aA)):=by
 refine aF.w 26 Tryz.func316 fun w g0 _=> ?_
 have hfl:= @F0 b e.Tag e.aJ
 have hbl:=(inferInstance:dc b 1048576).h
 refine fW [8] [] [] (.quiet 0 0 (.quiet 1 0 (.quiet 2 0 (.quiet 3 0 (.quiet 4 0 (.quiet 6 0 (.fork (.alt 5 (.fork (.alt 7 (.fork (.alt 8 (.quiet 9 0 .done) .stop)) .stop)) (.alt 7 (.fork (.alt 5 (.fork (.alt 8 (.quiet 9 0 .done) .stop)) .stop)) .stop))))))))) ?_
 repeat' first|exact True.intro|refine And.intro ?_ ?_|refine bk (nX b e.Tag e.aJ).k ?_|refine cB ?_
 all_goals (
  refine W3 ((bM b e.Tag e.aJ).length + 1) ?_ (by simp)
  refine aB ?_ ?_ <;> intro hb
  ·refine W3 ((bM b e.Tag e.aJ).length + 1) ?_ (by simp)
   refine cD ?_
   refine cutO ((bM b e.Tag e.aJ).length + 1 - 6) ((bM b e.Tag e.aJ).length + 1) ?_ (by omega) (by simp)
   refine cB ?_
   exact (by refine ownE (l:=(gC b e).map aA) (by unfold gC;rw [List.map_drop,List.map_append,List.nil_append,List.take_of_length_le (by simp)];rfl) ?_;exact rfl)
  ·exact (by rw [R4 (by omega),List.map_append];rfl))
theorem uS (b:List bt) (e:bt) [Q (dh b)]:aF Tryz.prog 475 [L 4 (b.map aA),A (nQ e)] (RL 4 ((gC b e).map aA)):=by
 refine aF.wT 21 4 Tryz.func475 fun w g0 _=> ?_
 have hfl:= @F0 b e.Tag e.aJ
 have hbl:=(inferInstance:dc b 1048576).h
 refine fW [8] [] [] (.quiet 0 0 (.quiet 1 0 (.quiet 2 0 (.quiet 3 0 (.quiet 4 0 (.quiet 6 0 (.fork (.alt 5 (.fork (.alt 7 (.fork (.alt 8 (.quiet 9 0 .done) .stop)) .stop)) (.alt 7 (.fork (.alt 5 (.fork (.alt 8 (.quiet 9 0 .done) .stop)) .stop)) .stop))))))))) ?_
 repeat' first|exact True.intro|refine And.intro ?_ ?_|refine bk (nY b e.Tag e.aJ).k ?_|refine cB ?_
 all_goals (
  refine W3 ((bM b e.Tag e.aJ).length + 1) ?_ (by simp)
  refine cD ?_
  refine cutO ((bM b e.Tag e.aJ).length + 1 - 6) ((bM b e.Tag e.aJ).length + 1) ?_ (by omega) (by simp)
  exact (by refine tlp ((gC b e).map aA) ?_ (by simp) (by unfold gC;rw [List.map_drop,List.map_append];rfl);exact rfl))
theorem kO (k:bQ) (ag:Int):aF Tryz.prog 459 [A (fU k),I ag] (RG [.a (gB ((ask k ag).getD bu)), .c (.v (.bool (ask k ag).isSome))]):=by
 refine aF.w 24 Tryz.func459 fun w g0 hM=> ?_
 have hkq:∀ h:eH k ag=false,¬ (0 ≤ ag∧ag < k.bY.length∧ag < k.c8.length):=fun h=>by simpa [eH] using h
 have eK:=hM.1.1.map
 have Hg:=hM.1.2.1.map
 refine ah (sx _ _).k ?_
 refine aB ?_ ?_ <;> intro Kr
 ·refine ah (cW).k ?_
  exact (by rw [Pf (hkq (by assumption))];rfl)
 ·have hkp:0 ≤ ag∧ag < k.bY.length∧ag < k.c8.length:=by simpa [eH] using (by assumption:eH k ag=true)
  obtain ⟨a,ha⟩:∃ a,k.bY[ag.toNat]? = some a:=⟨_,List.getElem?_eq_getElem (by omega)⟩
  obtain ⟨z,hz⟩:∃ z,k.c8[ag.toNat]? = some z:=⟨_,List.getElem?_eq_getElem (by omega)⟩
  refine fN ha ?_
  skip
  refine aB ?_ ?_ <;> intro hb
  ·refine ah (cW).k ?_
   exact (by rw [QS (by omega) (by assumption) (by assumption)];rfl)
  ·refine fN hz ?_
   skip
   exact (by rw [QT (by omega) (by assumption) (by assumption) (by assumption)];rfl)
theorem kP (k:bQ) (ag:Int):aF Tryz.prog 473 [A (fU k),I ag] (RG [.a (gB ((ask k ag).getD bu)), .c (.v (.bool (ask k ag).isSome))]):=by
 refine aF.w 34 Tryz.func473 fun w g0 hM=> ?_
 have eK:=hM.1.1.map
 have Hg:=hM.1.2.1.map
 refine len ?_
 refine ah (bA _ _).k ?_
 refine aB ?_ ?_ <;> intro W9
 ·refine ah (eM).k ?_
  exact (by rw [Pf (by omega)];rfl)
 ·refine len ?_
  refine ah (bA _ _).k ?_
  refine aB ?_ ?_ <;> intro hg14
  ·refine ah (eM).k ?_
   exact (by rw [Pf (by omega)];rfl)
  ·obtain ⟨a,ha⟩:∃ a,k.bY[ag.toNat]? = some a:=⟨_,List.getElem?_eq_getElem (by omega)⟩
   obtain ⟨z,hz⟩:∃ z,k.c8[ag.toNat]? = some z:=⟨_,List.getElem?_eq_getElem (by omega)⟩
   refine fN ha ?_
   skip
   refine aB ?_ ?_ <;> intro hb
   ·refine ah (eM).k ?_
    exact (by rw [QS (by omega) (by assumption) (by assumption)];rfl)
   ·refine fN hz ?_
    skip
    exact (by rw [QT (by omega) (by assumption) (by assumption) (by assumption)];rfl)
theorem mO (k:bQ) (inner:List aL) (outer:List aL) (ag:Int) [Q (de k)]:aF Tryz.prog 460 [A (fU k),L 2 (inner.map aQ),L 2 (outer.map aQ),I ag] (RG [.a (fU (eg k inner outer ag))]):=by
 refine aF.w 35 Tryz.func460 fun w g0 hM=> ?_
 have hkq:∀ h:eH k ag=false,¬ (0 ≤ ag∧ag < k.bY.length∧ag < k.c8.length):=fun h=>by simpa [eH] using h
 have eK:=hM.2.1.map
 have Hg:=hM.1.1.map
 have hl2:=hM.1.2.1.map
 refine ak (kL k).k ?_
 refine ah (sx k ag).k ?_
 refine aB ?_ ?_ <;> intro gm
 ·refine len ?_
  refine aB ?_ ?_ <;> intro hb
  ·have hkp:0 ≤ ag∧ag < k.bY.length∧ag < k.c8.length:=by simpa [eH] using (by assumption:eH k ag=true)
   obtain ⟨s,hs⟩:∃ s,inner[ag.toNat]? = some s:=⟨_,List.getElem?_eq_getElem (by omega)⟩
   refine aZ ?_
   refine rA (fun z1 Xc Xd Xe=> ?_)
   refine fW [10] [10] [] (.quiet 2 1 (.quiet 3 1 (.quiet 4 1 (.quiet 7 1 (.quiet 0 0 (.quiet 1 0 (.quiet 5 0 (.quiet 6 0 (.fork (.alt 8 (.quiet 9 0 (.fork (.alt 10 .done .stop))) .stop)))))))))) ?_
   repeat' first|exact True.intro|refine And.intro ?_ ?_|(intro _ _)|refine fN hs ?_|refine rA (fun z2 YD qz2 lz2=> ?_)|refine ah (yU s outer).k ?_|refine aZ ?_
   exact (by rw [Ni (by omega) hs];rfl)
  ·exact (by rw [AL (by right;omega)];rfl)
 ·exact (by rw [AL (.inl (hkq (by assumption)))];rfl)
theorem mP (k:bQ) (inner:List aL) (outer:List aL) (ag:Int) [Q (de k)]:aF Tryz.prog 474 [A (fU k),L 2 (inner.map aQ),L 2 (outer.map aQ),I ag] (RG [.a (fU (eg k inner outer ag))]):=by
 refine aF.w 45 Tryz.func474 fun w g0 hM=> ?_
 have eK:=hM.2.1.map
 have Hg:=hM.1.1.map
 have hl2:=hM.1.2.1.map
 refine ak (j9 k).k ?_
 refine len ?_
 refine ah (bA _ _).k ?_
 refine aB ?_ ?_ <;> intro OT
 ·refine len ?_
  refine ah (bA _ _).k ?_
  refine aB ?_ ?_ <;> intro hg12
  ·refine len ?_
   refine ah (bA _ _).k ?_
   refine aB ?_ ?_ <;> intro hb
   ·obtain ⟨s,hs⟩:∃ s,inner[ag.toNat]? = some s:=⟨_,List.getElem?_eq_getElem (by omega)⟩
    refine aZ ?_
    refine rA (fun z1 Xc Xd Xe=> ?_)
    refine fW [10] [10] [] (.quiet 2 1 (.quiet 3 1 (.quiet 4 1 (.quiet 7 1 (.quiet 0 0 (.quiet 1 0 (.quiet 5 0 (.quiet 6 0 (.fork (.alt 8 (.quiet 9 0 (.fork (.alt 10 .done .stop))) .stop)))))))))) ?_
    repeat' first|exact True.intro|refine And.intro ?_ ?_|(intro _ _)|refine fN hs ?_|refine rA (fun z2 YD qz2 lz2=> ?_)|refine ah (yV s outer).k ?_|refine aZ ?_
    exact (by rw [Ni (by omega) hs];rfl)
   ·exact (by (rw [AL (by right;omega)];rfl))
  ·exact (by rw [AL (by left;omega)];rfl)
 ·exact (by rw [AL (by left;omega)];rfl)
theorem BV (k:bQ) [Q (de k)]:aF Tryz.prog 433 [A (fU k)] (RG [.a (fU (h_ k))]):=by
 refine aF.w 17 Tryz.func433 fun w g0 _=> ?_
 refine ak (kL k).k ?_
 refine cI [1,2] [] [1,5] (fun (i:Nat)=>[.set 3 (I i)]) (fun (i:Nat)=>[(1,⟨true,[.own (.sl 1 ((gh k (cz F1 i)).bY.map bz)), .own (.sl 2 ((gh k (cz F1 i)).c8.map aQ))]⟩)]) (fun (i:Nat)=>i ≤ k.bY.length) (fun (i:Nat)=>k.bY.length - i) (0) (Nat.zero_le _) ?_
 refine ⟨(hda (by repeat' first|exact rfl|refine And.intro ?_ ?_|exact True.intro)),fun i hyp N1 bw=> ?_⟩
 have hyp:i ≤ k.bY.length:=hyp
 have LH:=(inferInstance:dc k.bY 1048576).h
 have hlk:= @ul (cz F1 i) k
 refine len ?_
 refine aB ?_ ?_ <;> intro hb
 refine ak (sA (gh k (cz F1 i)) i).k ?_
 refine cD ?_
 refine bw _ _ _ ?_
 refine iF (i + 1) (by omega) (by repeat' first|exact rfl|refine And.intro ?_ ?_|exact True.intro|(refine eV ?_;rw [QU];done))
 refine bw _ _ _ ?_
 exact (by rw [U0 (i:=i) (by omega)];rfl)
theorem BW (k:bQ) [Q (de k)]:aF Tryz.prog 93 [A (fU k)] (RG [.a (fU (h_ k))]):=by
 refine aF.w 18 Tryz.func93 fun w g0 _=> ?_
 refine ak (j9 k).k ?_
 refine len ?_
 refine cI [2,3,9] [] [3,6] (fun (i:Nat)=>[.set 10 (I i)]) (fun (i:Nat)=>[(3,⟨true,[.own (.sl 1 ((gh k (cz F1 i)).bY.map bz)), .own (.sl 2 ((gh k (cz F1 i)).c8.map aQ))]⟩)]) (fun (i:Nat)=>i ≤ k.bY.length) (fun (i:Nat)=>k.bY.length - i) (0) (Nat.zero_le _) ?_
 refine ⟨(hda (by repeat' first|exact rfl|refine And.intro ?_ ?_|exact True.intro)),fun i hyp N1 bw=> ?_⟩
 have hyp:i ≤ k.bY.length:=hyp
 have LH:=(inferInstance:dc k.bY 1048576).h
 have hlk:= @ul (cz F1 i) k
 refine aB ?_ ?_ <;> intro hb
 refine ak (sy (gh k (cz F1 i)) i).k ?_
 refine cD ?_
 refine bw _ _ _ ?_
 refine iF (i + 1) (by omega) (by repeat' first|exact rfl|refine And.intro ?_ ?_|exact True.intro|(refine eV ?_;rw [QU];done))
 refine bw _ _ _ ?_
 exact (by rw [U0 (i:=i) (by omega)];rfl)
end
end Go.Proofs.YtdliggkohdnipaaGreat.T
