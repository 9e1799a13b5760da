import Derived.Test.YtdliggkohdnipaaGreatTzkr
set_option linter.unusedVariables false
set_option linter.unusedSimpArgs false
namespace Go.Proofs.YtdliggkohdnipaaGreat.T
open Go
section
variable {ops:Array Oper} {bs s ws:List Nat} {tl:List Oper} {i:Nat} {o:Oper} {bD:St} {t:TS}
inductive Ord where
 | done:Ord
 | quiet:Nat→Nat→Ord→Ord
 | fork:Ord→Ord
 | alt:Nat→Ord→Ord→Ord
 | stop:Ord
def Ord.alts:Ord→List Nat
 | .alt i _ u=>i :: u.alts
 | _=>[]
def JU (ops:Array Oper) (ws bs s:List Nat) (i b:Nat) (listed:Array Bool):Bool:=match b with
 | 0=>(Region.ready .any ops listed).contains i && Region.free .any ops listed i && !ws.contains i && ws.all (fun k=>listed.getD k false || reaches .any ops ops.size k i)
 | _=>(Region.ready .any ops listed).contains i && Region.free .any ops listed i && !ws.contains i && ws.all (fun k=>bs.contains k || (listed.getD k false || reaches .any ops ops.size k i)) &&
     (List.range ops.size).all (fun j=>j == i && s.all (fun x=>((ops[j]?).bind (·.dst)) != some x) || j != i && (listed.getD j true || s.all fun x=>((ops[j]?).bind (·.dst)) != some x))
def Ord.ok (ops:Array Oper) (ws bs s:List Nat):Ord→Nat→Array Bool→Bool
 | .done,_,listed=>(Region.ready .any ops listed).isEmpty
 | .quiet i b t,n + 1,listed=>JU ops ws bs s i b listed && t.ok ops ws bs s n (listed.setIfInBounds i true)
 | .quiet _ _ _,0,_=>false
 | .fork t,n,listed=>(Region.ready .any ops listed == t.alts) && t.ok ops ws bs s n listed
 | .alt i t u,n + 1,listed=>(Region.ready .any ops listed).contains i && t.ok ops ws bs s n (listed.setIfInBounds i true) && u.ok ops ws bs s (n + 1) listed
 | .alt _ _ _,0,_=>false
 | .stop,_,_=>true
def Mg (P:Program) (ops:Array Oper) (Q:Exit→Act→World→Prop) (ws bs s:List Nat) (i:Nat) (K:Act→World→Prop) (a:Act) (w:World):Prop:=
 if ws.contains i=true then (if bs.contains i=true then Sw P ops s i K a w else wpOp P ops Q i K a w) else Ep P ops i K a w
section
variable {P:Program} {w0:World} {g0:Gh} {st:St}
def TT (P:Program) (w0:World) (g0:Gh) (ops:Array Oper) (ws bs s:List Nat) (t:Ord) (st:St) (Q:St→Prop):Prop:=
 ∀ fuel listed,Region.noSelect ops=true→tI .any ops listed→t.ok ops ws bs s fuel listed=true→∀ a w g,Rel w0 g0 st a w g→∀ (Q':Exit→Act→World→Prop),(∀ bD a' w' g',Q bD→Rel w0 g0 bD a' w' g'→Q' .normal a' w')→
  nM P .any ops Q' ws bs s fuel listed a w
def TA (P:Program) (w0:World) (g0:Gh) (ops:Array Oper) (ws bs s:List Nat) (t:Ord) (st:St) (Q:St→Prop):Prop:=
 ∀ fuel listed,Region.noSelect ops=true→tI .any ops listed→t.ok ops ws bs s (fuel + 1) listed=true→∀ a w g,Rel w0 g0 st a w g→∀ (Q':Exit→Act→World→Prop),(∀ bD a' w' g',Q bD→Rel w0 g0 bD a' w' g'→Q' .normal a' w')→
  ∀ i ∈ t.alts,Mg P ops Q' ws bs s i (nM P .any ops Q' ws bs s fuel (listed.setIfInBounds i true)) a w
theorem TC.P9 {Q:Exit→St→Prop} (ws bs s:List Nat) (t:Ord) (hm:P.follows .mixedOrders=true) (hB:(Region.noSelect ops && t.ok ops ws bs s ops.size (Array.replicate ops.size false))=true) (h:TT P w0 g0 ops ws bs s t st (fun bD=>Q .normal bD)):
  TC P w0 g0 (.region i ops true) st Q:=fun a w g hR=>by
 simp only [Bool.and_eq_true] at hB
 obtain ⟨h1,h3⟩:=hB
 have hU:Rel w0 g0 st a { w with drawn:=w.drawn + 1 } g:=hR.drew
 refine wp_region_any hm (qw (ws:=ws) (bs:=bs) (s:=s) _ _ _ _ ?_)
 refine h _ _ h1 (fun j o ho hj=> ?_) h3 a _ g hU _ fun bD a' w' g' hq hr=>⟨bD,g',hq,hr⟩
 simp [Array.getElem?_replicate] at hj
 split at hj <;> simp at hj
theorem TT.nil {ops:Array Oper} {ws bs s:List Nat} {Q:St→Prop} (h:Q st):TT P w0 g0 ops ws bs s .done st Q:=fun fuel listed hs hc he a w g hR Q' hQ=>by
 have h0:Region.ready .any ops listed=[]:=by simpa [Ord.ok,List.isEmpty_iff] using he
 cases fuel with
 | zero=>exact ⟨h0,hQ st a w g h hR⟩
 | succ n=>exact ⟨fun _=>hQ st a w g h hR,fun i hi=>by rw [h0] at hi;cases hi⟩
theorem TT.fork {ops:Array Oper} {ws bs s:List Nat} {t:Ord} {Q:St→Prop} (h:TA P w0 g0 ops ws bs s t st Q) (hne:t.alts ≠ []):TT P w0 g0 ops ws bs s (.fork t) st Q:=fun fuel listed hs hc he a w g hR Q' hQ=>by
 simp only [Ord.ok,Bool.and_eq_true,beq_iff_eq] at he
 cases fuel with
 | zero=>
  cases t with
  | alt i t u=>simp [Ord.ok] at he
  | _=>exact absurd rfl hne
 | succ n=>
  refine ⟨fun h0=>absurd (he.1.symm.trans h0) hne,fun i hi=> ?_⟩
  rw [he.1] at hi
  exact h n listed hs hc he.2 a w g hR Q' hQ i hi
theorem TA.stop {Q:St→Prop}:TA P w0 g0 ops ws bs s .stop st Q:=fun fuel listed hs hc he a w g hR Q' hQ i hi=>by cases hi
theorem TA.alt {t u:Ord} {Q:St→Prop} 
  (h:∀ (Q':Exit→Act→World→Prop) (K:Act→World→Prop),(∀ bD a' w' g',TT P w0 g0 ops ws bs s t bD Q→Rel w0 g0 bD a' w' g'→K a' w')→∀ a w g,Rel w0 g0 st a w g→Mg P ops Q' ws bs s i K a w) (hu:TA P w0 g0 ops ws bs s u st Q):
  TA P w0 g0 ops ws bs s (.alt i t u) st Q:=fun fuel listed hs hc he a w g hR Q' hQ j hj=>by
 simp only [Ord.ok,Bool.and_eq_true] at he
 obtain ⟨⟨h1,h2⟩,h3⟩:=he
 rcases List.mem_cons.1 hj with rfl|hj
 exact h Q' _ (fun bD a' w' g' hq hU=>hq fuel _ hs (hc.set (by simpa using h1)) h2 a' w' g' hU Q' hQ) a w g hR
 exact hu fuel listed hs hc h3 a w g hR Q' hQ j hj
theorem TT.Zn {ops:Array Oper} {ws bs s:List Nat} {i:Nat} {t:Ord} {bD:St} {Q:St→Prop} {o:Oper} {tl:List Oper} (hne:ws.contains i=false) (sI:ops.toList.drop i=o :: tl)
  (h:∀ a w g,Rel w0 g0 st a w g→∃ v,YV P ops o v a w∧Rel w0 g0 bD (a.put o.dst v) w g) (hq:TT P w0 g0 ops ws bs s t bD Q):TT P w0 g0 ops ws bs s (.quiet i 0 t) st Q:=fun fuel listed hs hc he a w g hR Q' hQ=>by
 cases fuel with
 | zero=>simp [Ord.ok] at he
 | succ n=>
  have hi:=pJ sI
  simp only [Ord.ok,JU,Bool.and_eq_true] at he
  obtain ⟨h1,h2⟩:=he
  obtain ⟨v,hy,hU⟩:=h a w g hR
  have P8:i ∈ Region.ready .any ops listed:=by simpa using h1.1.1.1
  have hnext:=hq n (listed.setIfInBounds i true) hs (hc.set P8) h2 _ w g hU Q' hQ
  exact zR (n:=ops.size) hi (Region.noSelect_spec hs) hne _ listed a w hc (fun k hk=>by simpa using List.all_eq_true.1 h1.2 k hk) (Region.free_spec hi h1.1.1.2) P8 hy hnext
theorem TT.Zo {ops:Array Oper} {ws bs s:List Nat} {i b:Nat} {t:Ord} {bD:St} {Q:St→Prop} {o:Oper} {tl:List Oper} (hne:ws.contains i=false) (sI:ops.toList.drop i=o :: tl)
  (h:∀ a w g,Rel w0 g0 st a w g→∃ v,YS P ops s o v a w∧Rel w0 g0 bD (a.put o.dst v) w g) (hq:TT P w0 g0 ops ws bs s t bD Q):TT P w0 g0 ops ws bs s (.quiet i (b + 1) t) st Q:=fun fuel listed hs hc he a w g hR Q' hQ=>by
 cases fuel with
 | zero=>simp [Ord.ok] at he
 | succ n=>
  have hi:=pJ sI
  simp only [Ord.ok,JU,Bool.and_eq_true] at he
  obtain ⟨h1,h2⟩:=he
  obtain ⟨v,hy,hU⟩:=h a w g hR
  have P8:i ∈ Region.ready .any ops listed:=by simpa using h1.1.1.1.1
  have hnext:=hq n (listed.setIfInBounds i true) hs (hc.set P8) h2 _ w g hU Q' hQ
  have hds:∀ j oj,ops[j]? = some oj→(j=i→∀ x ∈ s,oj.dst ≠ some x)∧(j ≠ i→listed.getD j true=false→∀ x ∈ s,oj.dst ≠ some x):=fun j oj hj=>by
   have h3:=List.all_eq_true.1 h1.2 j (List.mem_range.2 (Array.getElem?_eq_some_iff.1 hj).1)
   rw [hj] at h3
   simp only [Option.bind_some,Bool.or_eq_true,Bool.and_eq_true,beq_iff_eq,bne_iff_ne,List.all_eq_true] at h3
   refine ⟨fun e=> ?_,fun e hl=> ?_⟩
   rcases h3 with h3|h3
   exact h3.2
   exact absurd e h3.1
   rcases h3 with h3|h3
   exact absurd h3.1 e
   rcases h3.2 with h4|h4
   rw [hl] at h4;cases h4
   exact h4
  exact Hh (n:=ops.size) hi (Region.noSelect_spec hs) hne ((hds i o hi).1 rfl) _ listed a w hc (fun k hk=>by simpa using List.all_eq_true.1 h1.1.2 k hk) (Region.free_spec hi h1.1.1.1.2) (fun j oj hj hji hl=>(hds j oj hj).2 hji hl) P8 hy hnext
theorem TT.S7 {l:Ord} {Q:St→Prop} (hne:ws.contains i=false) (sI:ops.toList.drop i=o :: tl) (hg:yes ops st o) (h:dQ P w0 g0 o st t) (hp:st.put o.dst t=bD) 
  (hq:TT P w0 g0 ops ws bs s l bD Q):TT P w0 g0 ops ws bs s (.quiet i 0 l) st Q:=TT.Zn hne sI (fun a w g hR=>by
 obtain ⟨v,hr,hv⟩:=h a w g hR
 exact ⟨v, .inl ⟨ql hg hR,fun w' CX=>hr w' CX.2.2.2.2⟩,hp ▸ hR.put hv o.dst⟩) hq
theorem TT.valS {b:Nat} {l:Ord} {Q:St→Prop} (hne:ws.contains i=false) (sI:ops.toList.drop i=o :: tl) (hg:yes ops st o) (h:Hi P w0 g0 s o st t) (hp:st.put o.dst t=bD) 
  (hq:TT P w0 g0 ops ws bs s l bD Q):TT P w0 g0 ops ws bs s (.quiet i (b + 1) l) st Q:=TT.Zo hne sI (fun a w g hR=>by
 obtain ⟨v,hr,hv⟩:=h a w g hR
 exact ⟨v, .inl ⟨ql hg hR,hr⟩,hp ▸ hR.put hv o.dst⟩) hq
theorem TA.opK {l u:Ord} {Q:St→Prop} (hin:ws.contains i=true∧bs.contains i=false) (sI:ops.toList.drop i=o :: tl) (hg:yes ops st o) 
  (h:∀ K:St→Prop,(∀ bD,TT P w0 g0 ops ws bs s l bD Q→K bD)→fX P w0 g0 o st K) (hu:TA P w0 g0 ops ws bs s u st Q):TA P w0 g0 ops ws bs s (.alt i l u) st Q:=TA.alt (fun Q' K hK a w g hR=>by
 unfold Mg
 rw [if_pos hin.1,if_neg (by rw [hin.2];decide)]
 unfold wpOp
 simp only [pJ sI,ql hg hR,if_true]
 exact .inl (h _ (fun _ h=>h) a w g hR _ _ fun bD a' w' g' hq hU=>hK bD a' w' g' hq hU)) hu
theorem TA.opM {l u:Ord} {Q:St→Prop} (hne:ws.contains i=false) (sI:ops.toList.drop i=o :: tl) (hg:yes ops st o) 
  (h:∀ K:St→Prop,(∀ bD,TT P w0 g0 ops ws bs s l bD Q→K bD)→rq P w0 g0 o st K) (hu:TA P w0 g0 ops ws bs s u st Q):TA P w0 g0 ops ws bs s (.alt i l u) st Q:=TA.alt (fun Q' K hK a w g hR=>by
 unfold Mg
 rw [if_neg (by rw [hne];decide)]
 unfold Ep
 simp only [pJ sI,ql hg hR,if_true]
 exact h _ (fun _ h=>h) a w g hR _ fun bD a' w' g' hq hU=>hK bD a' w' g' hq hU) hu
end
end
section
variable {aK:List (Nat×Nat)} {K k:Nat} {u:Value}
def Gh.dR (g:Gh) (aK:List (Nat×Nat)) (k K:Nat):Gh where
 o b:=match g.o b with
  | .cQ k' p q=>match p with
   | []=>match idxOf (k',q) aK with|some j=> .cQ k [] j|none=> .ro
   | (q1,i) :: r=>match idxOf (k',q1) aK with|some j=> .cQ k ((j,i) :: r) q|none=> .ro
  | .box _=> .ro
  | t=>t
 ad k' p:=if k'=K then g.ad K p else match p with| []=>(0,0)|(j,i) :: r=>match aK[j]? with|some s=>g.ad s.1 ((s.2,i) :: r)|none=>(0,0)
 cv k' p q:=if k'=K then g.cv K p q else match p with| []=>(match aK[q]? with|some s=>g.cv s.1 [] s.2|none=>undef)|(j,i) :: r=>match aK[j]? with|some s=>g.cv s.1 ((s.2,i) :: r) q|none=>undef
section
variable {P:Program} {w w':World} {g0 g:Gh} {st:St} {a:Act}
theorem Ev (Br:k ≠ K) {c:C} (h:fO w' g c u):fO w' (g.dR aK k K) (Ci aK k c) u:=by
 cases c with
 | ro d=>
  cases d with
  | v x=>
   have h3:Ro w' g.o (.v x) u:=h
   cases h3 with
   | v _ hp=>exact Ro.v _ hp
  | _=>trivial
 | own d=>trivial
 | ref pl=>
  obtain ⟨pk,pp,pq⟩:=pl
  simp only [Ci]
  split
  ·rename_i j h1 h2
   have:=ey h2
   refine ⟨?_,h.2⟩
   simp only [Gh.dR,this,if_neg Br]
   exact h.1
  ·trivial
 | dead=>trivial
theorem Ew (Br:k ≠ K) {t:TV} (h:ef w' g t u):ef w' (g.dR aK k K) (iH aK k t) u:=by
 cases h with
 | c c u hv=>exact .c _ u (Ev Br hv)
 | agg cs us hs hv=>
  refine .agg _ us (by simpa using hs) fun j c u h1 h2=> ?_
  rw [List.getElem?_map,Option.map_eq_some_iff] at h1
  obtain ⟨c',h1,rfl⟩:=h1
  exact Ev Br (hv j c' u h1 h2)
 | _=>exact .dead _
theorem Rel.Tk {h:Hand} (hR:Rel w g0 st a w' g) (hH:Handed w g0 h) (hhm:h.mem=false) {aK:List (Nat×Nat)} (hn:aK.Nodup) {row:List D} (hc:gV st aK=some row) {k:Nat} (hk:k < 1000000) {T:Nat→TS} {v:Value}
  (hv:dy w' (g.dR aK k h.k) (T k) v):mV w g0 h k (h.row.map fun _=> .hole) ⟨row,T⟩ v w' (g.dR aK k h.k):=by
 have Br:k ≠ h.k:=by have:=h.big;omega
 have Bl:∀ b,b < w.heap.size→g0.o b= .ro→w'.heap[b]? = w.heap[b]? ∧g.o b= .ro:=fun b hb h1=>by
  obtain ⟨h2,h3⟩:=hR.ks.block b hb (.inl h1)
  exact ⟨h2,h3.trans h1⟩
 have hout:∀ b,b < w'.heap.size→g.o b ≠ .outer:=fun b hb ht=>by
  obtain ⟨h1,h2⟩:=hR.ks.old b hb ht
  rcases hH.own b h1 with h3|h3
  rw [h3] at h2;cases h2
  rw [h2] at h3;cases h3
 have N4:∀ b,b < w'.heap.size→(g.dR aK k h.k).o b= .ro ∨ ((g.dR aK k h.k).o b).gu = some k:=fun b hb=>by
  simp only [Gh.dR]
  cases ht:g.o b with
  | ro=>exact .inl rfl
  | outer=>exact absurd ht (hout b hb)
  | box k'=>exact .inl rfl
  | cQ k' p q=>
   cases p with
   | nil=>
    simp only
    split
    exact .inr rfl
    exact .inl rfl
   | cons x r=>
    obtain ⟨q1,i⟩:=x
    simp only
    split
    exact .inr rfl
    exact .inl rfl
 have Zp:∀ b,w'.heap.size ≤ b→(g.dR aK k h.k).o b= .outer:=fun b hb=>by
  have:=hR.ks.fresh b hb
  simp only [Gh.dR,this]
 have hold:∀ b,((g.dR aK k h.k).o b).gu ≠ none→b < w'.heap.size:=fun b hb=>by
  rcases Nat.lt_or_ge b w'.heap.size with h1|h1
  exact h1
  rw [Zp b h1] at hb;exact absurd rfl hb
 refine ⟨hR.ks.os,hR.ks.tape,hR.ks.output,hR.ks.size,fun b hb h1=>(Bl b hb h1).1,fun b h2 _=> ?_,fun b hb=>⟨?_, ?_⟩,fun q d hq=> ?_,by simp,fun q d hq=> ?_,fun hm q _=> ?_,fun hm=> ?_,hv⟩
 rcases N4 b h2 with h|h
 exact .inl h
 exact .inr (.inl h)
 exact hold b (by rcases hb with hb|hb <;> rw [hb] <;> simp)
 rcases Nat.lt_or_ge b w.heap.size with h1|h1
 refine .inr fun h2=> ?_
 have:=(Bl b h1 h2).2
 simp only [Gh.dR,this] at hb
 rcases hb with hb|hb <;> cases hb
 exact .inl h1
 obtain ⟨s,h1,h2⟩:=(jM hc).2 q d hq
 have hO:Ow w' g s.1 [] s.2 d:=(hR.cellAt h2).1 d rfl
 have hi:=p5 hn h1
 refine Ow.move hO ⟨?_,fun i r q'=> ?_,fun i r=> ?_,fun b hb=>⟨?_,rfl⟩,fun b i r q' hb=>⟨?_,rfl⟩⟩
 simp [Gh.dR,h1,Br]
 simp [Gh.dR,h1,Br]
 simp [Gh.dR,h1,Br]
 simp only [Gh.dR,hb,hi]
 simp only [Gh.dR,hb,List.nil_append,hi]
 rw [List.getElem?_map,Option.map_eq_some_iff] at hq
 obtain ⟨_,_,rfl⟩:=hq
 exact .hole [] q
 have hK:h.k=cm:=by simp [Hand.k,hm]
 simp only [Gh.dR,hK,if_true]
 exact hR.ks.uB.1 q
 rw [hhm] at hm;cases hm
theorem eA.Om {f:FuncId} {fn:Func} {c:Code} {h:Hand} (hhm:h.mem=false) {pts:List TS} {R:mR→Prop} (hf:P.funcs[f]? = some fn) (hb:fn.body=some c) (hn:pts.length ≤ fn.ntmps)
  (hw:∀ w g0,TC P w g0 c ⟨pts ++ List.replicate (fn.ntmps - pts.length) (.one .dead),[(h.k,⟨h.mem,h.row.map C.own⟩)]⟩ (Ends P fn R)):eA P f h pts (fun row' r=>row'=h.row.map (fun _=> .hole)∧R r):=by
 intro w g args k hk hH hsz hargs
 have gk:∀ k' r,(⟨pts ++ List.replicate (fn.ntmps - pts.length) (.one .dead),[(h.k,⟨h.mem,h.row.map C.own⟩)]⟩:St).root k'=some r→k'=h.k∧r=⟨h.mem,h.row.map C.own⟩:=fun k' r hr=>by
  simp only [St.root,List.find?_cons,List.find?_nil] at hr
  split at hr
  rename_i e
  simp only [Option.map_some,Option.some.injEq] at hr
  exact ⟨(by simpa using e:h.k=k').symm,hr.symm⟩
  cases hr
 refine calls_of_wp hf hb (wp_mono (hw w g _ w g ⟨fun i tv hi=> ?_, ?_,rfl,⟨fun k' r hk' q c hq=> ?_,fun k' r hk' hm=> ?_⟩,⟨rfl,rfl,rfl,Nat.le_refl _,fun b hb _=>⟨rfl,rfl⟩,fun b hb=>hH.out b hb,fun b hb ho=> ?_,⟨fun _=>rfl,rfl⟩,hH.ie⟩⟩) fun e a w' ⟨st,g',hE,hR⟩=> ?_)
 by_cases hlt:i < pts.length
 rw [List.getElem?_append_left hlt] at hi
 have hi':i < args.size:=by omega
 have h1:(args ++ Array.replicate (fn.ntmps - args.size) undef).getD i undef=args[i]:=by
  rw [Array.getD_eq_getD_getElem?,Array.getElem?_append_left hi',Array.getElem?_eq_getElem hi']
  rfl
 show dy w g tv ((args ++ Array.replicate (fn.ntmps - args.size) undef).getD i undef)
 rw [h1]
 exact hargs i tv _ hi (Array.getElem?_eq_getElem hi')
 rw [List.getElem?_append_right (by omega),List.getElem?_replicate] at hi
 split at hi
 simp only [Option.some.injEq] at hi
 subst hi
 exact .one _ _ (.dead _)
 cases hi
 show (args ++ Array.replicate (fn.ntmps - args.size) undef).size=_
 simp [hsz]
 obtain ⟨rfl,rfl⟩:=gk k' r hk'
 rw [List.getElem?_map,Option.map_eq_some_iff] at hq
 obtain ⟨d,hq,rfl⟩:=hq
 exact hH.row q d hq
 obtain ⟨rfl,rfl⟩:=gk k' r hk'
 have hm':h.mem=true:=hm
 have hK:h.k=dN:=by simp [Hand.k,hm']
 rw [hK]
 obtain ⟨m1,m2,m3⟩:=hH.mem hm'
 exact ⟨m1,m2,fun q hq=>m3 q (by simpa using hq)⟩
 rcases hH.own b hb with h1|h1
 rw [h1] at ho;cases ho
 rw [ho] at h1;cases h1
 obtain ⟨he,u_,cZ,row,h1,h2,h3,h4,h5,h9⟩:=hE
 have Br:k ≠ h.k:=by have:=h.big;omega
 have hlen:u_.length=cZ.length:=by
  have:=congrArg List.length h3
  simpa using this
 obtain ⟨us,PY,PZ,sO⟩:=hR.resultList h3
 have hrun:=oE (P:=P) h1 h2 a.tmps w' PY PZ
 have xJ:∀ (i:Nat) t u,cZ[i]? = some t→us[i]? = some u→ef w' (g'.dR (cZ.flatMap fh) k h.k) (iH (cZ.flatMap fh) k t) u:=fun i t u hi hu=>Ew Br (sO i t u hi hu)
 have hval:dy w' (g'.dR (cZ.flatMap fh) k h.k) (nx (cZ.map (iH (cZ.flatMap fh) k))) (CW us):=by
  have JI:∀ l:List Value,l.length=cZ.length→(∀ (i:Nat) t u,cZ[i]? = some t→l[i]? = some u→ef w' (g'.dR (cZ.flatMap fh) k h.k) (iH (cZ.flatMap fh) k t) u)→
    dy w' (g'.dR (cZ.flatMap fh) k h.k) (.lp (cZ.map (iH (cZ.flatMap fh) k))) (.tuple l.toArray):=fun l hl hh=>
   .lp _ _ (by simp [hl]) fun j t u hj hu=>by
    rw [List.getElem?_map,Option.map_eq_some_iff] at hj
    obtain ⟨t',hj,rfl⟩:=hj
    exact hh j t' u hj (by simpa using hu)
  have hl:=JI us (by omega) xJ
  have Wk:us.length=cZ.length:=by omega
  clear hrun PZ sO h3 h5 h9 h4
  match us,cZ,Wk with
  | [],[],_=>exact hl
  | [t],[tv],_=>exact .one _ _ (xJ 0 tv _ rfl rfl)
  | _ :: _ :: _,_ :: _ :: _,_=>exact hl
 have hG:=hR.Tk hH hhm h4 h5 hk (T:=fun k=>nx (cZ.map (iH (cZ.flatMap fh) k))) hval
 have vg:∃ v,(results fn a.tmps).run P w'= .ok v w'∧∃ v_1 Ex r g',Ending.returned v=Ending.returned v_1∧(Ex=h.row.map (fun _=> .hole)∧R r)∧mV w g h k Ex r v_1 w' g':=⟨_,hrun,_,_,_,_,rfl,⟨rfl,h9⟩,hG⟩
 rcases he with rfl|rfl
 exact ⟨hR.df,vg⟩
 exact ⟨hR.df,vg⟩
end
section
variable {P:Program} {w0:World} {g0:Gh} {st:St} {a:Act} {w w':World} {g:Gh}
theorem Rel.DI (hR:Rel w0 g0 st a w g) (hk:k < 1000000) (hn:st.root k=none) {row:List D} (hr:∀ (q:Nat) d,row[q]? = some d→Ow w g k [] q d):Rel w0 g0 (st.cq k ⟨false,row.map C.own⟩) a w g:=by
 refine ⟨hR.tm,hR.sz,hR.df,⟨fun k' r hk' q c hq=> ?_,fun k' r hk' hm=> ?_⟩,hR.ks⟩
 rw [St.c7] at hk'
 split at hk'
 rename_i e
 subst e
 simp only [Option.some.injEq] at hk'
 subst hk'
 rw [List.getElem?_map,Option.map_eq_some_iff] at hq
 obtain ⟨d,hq,rfl⟩:=hq
 exact hr q d hq
 exact hR.rt.cell k' r hk' q c hq
 rw [St.c7] at hk'
 split at hk'
 simp only [Option.some.injEq] at hk'
 subst hk'
 cases hm
 exact hR.rt.mem k' r hk' hm
theorem fX.call3 {o:Oper} {bD:St} {Q:St→Prop} {f:FuncId} {cx:Operand} {args:List Operand} {nL:Array TypeId} {fn:Func} 
  (ho:o.op= .call { callee:= .value cx,args:=args.toArray,argTypes:=nL }) (lA:T.cy 0 st cx=some (.fn f [])) (hf:P.funcs[f]? = some fn) (hb:fn.body.isNone=false)
  (hn : (fn.name == "runtime.NumGoroutine") = false) {ts ts' : List TS} (hx : jI st args = some ts) {h : Hand} {rows CY : List D} {T : Nat → TS} {R : List D → mR → Prop} (hc : eA P f h ts' R) (hRR : ∀ row' r, R row' r → row' = rows ∧ r.row = CY ∧ r.val = T)
  {aK:List (Nat×Nat)} {bx:Option Nat} {kd:Nat} (hC:eZ st h aK bx kd) (hs:aX st aK bx h.k ts ts') (hok:Wj kd CY.length (T kd)=true)
  (JN:((st.g_ aK h.mem rows kd).cq kd ⟨false,CY.map C.own⟩).put o.dst (T kd)=bD) (hq:Q bD):fX P w0 g0 o st Q:=fun a w g hR K Q' hK=>by
 have h1:=hR.jI hx
 have h2:=hs.get
 have jo:=hc w (g.hand w.heap.size aK bx h.k) (args.map a.eval).toArray kd hC.Ww (hR.g_ hC) (by simp [h1.1,h2.1]) (fun i t' u hi hu=>by
  obtain ⟨t,h3,h4⟩:=h2.2 i t' hi
  exact hR.Ma hC h4 (h1.2 i t u h3 (by simpa using hu)))
 unfold Oper.wp
 rw [kk hR ho lA hf hb hn w]
 refine jo.mono fun e w' ⟨v,row',r,g',he,Yl,hG⟩=> ?_
 subst he
 obtain ⟨rfl,LI,Og⟩:=hRR row' r Yl
 have h5:=hG.val
 rw [Og] at h5
 obtain ⟨g2,Cj,hrow,hval,_⟩:=hR.zP hC hG
 rw [LI] at hrow hval
 have Zq:=Cj.DI hC.Ww (by rw [oH];exact if_pos rfl) hrow
 exact hK _ _ _ _ hq (JN ▸ Zq.put (hval _ _ hok h5) o.dst)
end
end
section
variable {nL:Array TypeId} {fn:Func} {f:FuncId} {args:List Operand} {fk:List TV} {o:Oper} {cx:Operand} {bD:St}
section
variable {P:Program} {w0:World} {g0:Gh} {st:St}
section
variable {a:Act} {w:World} {g:Gh}
theorem Rel.P_ (hR:Rel w0 g0 st a w g) {cx:Operand} {f:FuncId} {fk:List TV} (lA:T.cy 0 st cx=some (.fn f fk)) {args:List Operand} {ts:List TS} (hx:T.jI st args=some ts):
  ∃ us:Array Value,a.eval cx= .func (.func f) #[] us∧((args.map a.eval).toArray ++ us).size=(ts ++ fk.map TS.one).length∧
   ∀ (i:Nat) t u,(ts ++ fk.map TS.one)[i]? = some t→((args.map a.eval).toArray ++ us)[i]? = some u→dy w g t u:=by
 have h1:=hR.jI hx
 have h2:=hR.cy lA
 generalize a.eval cx=v at h2
 cases h2 with
 | fn _ _ us hs h=>
  refine ⟨us,rfl,by simp [h1.1,hs],fun i t u hi hu=> ?_⟩
  by_cases hlt:i < ts.length
  rw [List.getElem?_append_left hlt] at hi
  rw [Array.getElem?_append_left (by simp [← h1.1,hlt])] at hu
  exact h1.2 i t u hi (by simpa using hu)
  rw [List.getElem?_append_right (by omega),List.getElem?_map,Option.map_eq_some_iff] at hi
  obtain ⟨tv,hi,rfl⟩:=hi
  rw [Array.getElem?_append_right (by simp [h1.1];omega)] at hu
  have hl:(args.map a.eval).toArray.size=ts.length:=by simp [h1.1]
  rw [hl] at hu
  exact .one _ _ (h _ tv u hi hu)
theorem tL {us:Array Value} (he:a.eval cx= .func (.func f) #[] us) 
  (ho:o.op= .call { callee:= .value cx,args:=args.toArray,argTypes:=nL }) (hf:P.funcs[f]? = some fn) (hb:fn.body.isNone=false)
  (hn : (fn.name == "runtime.NumGoroutine") = false) (w' : World) : (execOp a.eval o).run P w' = .ok (.enter f ((args.map a.eval).toArray ++ us)) w' := by
 have hn' : ¬ fn.name = "runtime.NumGoroutine" := by simpa using hn
 have hb':¬ fn.body=none:=fun e=>by rw [e] at hb;cases hb
 simp [execOp,ho,resolve,he,Deferred.ofValue,invoke,callFunc,hf,hn',hb']
end
theorem dQ.makeFunc {o:Oper} {f:FuncId} {cs:List Operand} {ts:List TS} {cZ:List TV} (ho:o.op= .makeFunc (.func f) #[] cs.toArray) (hx:jI st cs=some ts) (ht:ts=cZ.map TS.one):dQ P w0 g0 o st (.fn f cZ):=fun a w g hR=>by
 have h1:=hR.jI hx
 subst ht
 refine ⟨.func (.func f) #[] (cs.map a.eval).toArray,fun w' _=> ?_, .fn f cZ _ (by simpa using h1.1.symm) fun j t u hj hu=> ?_⟩
 simp [execOp,ho,Instr.makeFunc]
 have h2:=h1.2 j (.one t) u (by simp [hj]) (by simpa using hu)
 cases h2 with
 | one _ _ h=>exact h
theorem rq.Zr {Q:St→Prop} 
  (ho:o.op= .call { callee:= .value cx,args:=args.toArray,argTypes:=nL }) (lA:T.cy 0 st cx=some (.fn f fk)) (hf:P.funcs[f]? = some fn) (hb:fn.body.isNone=false)
  (hn : (fn.name == "runtime.NumGoroutine") = false) {ts ts' : List TS} (hx : jI st args = some ts) {t : TS} {x : Value} (hc : xI P w0 g0 f ts' (RP t)) (hs : rD st (ts ++ fk.map TS.one) ts') (hp : oG t = some x)
  (JN:st.put o.dst t=bD) (hq:Q bD):rq P w0 g0 o st Q:=fun a w g hR K' JQ=>by
 obtain ⟨us,he,h1,Ie⟩:=hR.P_ lA hx
 have h2:=hs.get
 have jo:=hc w hR.ks.kept { g with o:=ij w } ((args.map a.eval).toArray ++ us) 0 rfl (by rw [h1,h2.1]) (fun i t' u hi hu=>by
  obtain ⟨t,h3,h4⟩:=h2.2 i t' hi
  exact hR.ru h4 (Ie i t u h3 hu) _ rfl)
 rw [tL he ho hf hb hn w]
 refine ⟨gw.refl w,jo.mono fun e w' ⟨v,r,g',he,hr,hG⟩=> ?_⟩
 have h5:=hG.val
 rw [hr] at h5
 have h6:=(gH hp).1 h5
 subst h6
 exact ⟨v,he,hG.later,JQ _ _ _ _ hq (JN ▸ (hR.later hG.later).put ((gH hp).2 rfl) o.dst)⟩
theorem rq.Zs {Q:St→Prop} (ho:o.op= .call { callee:= .value cx,args:=args.toArray,argTypes:=nL }) 
  (lA:T.cy 0 st cx=some (.fn f fk)) (hf:P.funcs[f]? = some fn) (hb:fn.body.isNone=false)
  (hn : (fn.name == "runtime.NumGoroutine") = false) {k : Nat} (hd : o.dst = some k) {ts ts' : List TS} (hx : jI st args = some ts) (hs : rD st (ts ++ fk.map TS.one) ts') {l : List RD} (hc : xI P w0 g0 f ts' (RG l))
  (hok:(ez l).all Su=true) (hq:Q ((st.fresh k ⟨false,((ez l).filter xL).map C.own⟩).put (some k) (nx (rE k 0 l)))) (hkp:k < 1000000:=by decide):rq P w0 g0 o st Q:=fun a w g hR K hK=>by
 obtain ⟨us,he,h1,Ie⟩:=hR.P_ lA hx
 have h2:=hs.get
 have jo:=hc w hR.ks.kept { g with o:=ij w } ((args.map a.eval).toArray ++ us) k rfl (by rw [h1,h2.1]) (fun i t' u hi hu=>by
  obtain ⟨t,h3,h4⟩:=h2.2 i t' hi
  exact hR.ru h4 (Ie i t u h3 hu) _ rfl)
 rw [tL he ho hf hb hn w]
 refine ⟨gw.refl w,jo.mono fun e w' ⟨v,r,g',he,hr,hG⟩=> ?_⟩
 subst hr
 obtain ⟨g2,Cj,hv2⟩:=hR.called hkp hG (sQ hok)
 refine ⟨v,he,hG.later,hK _ _ _ g2 hq ?_⟩
 rw [hd]
 exact Cj.put hv2 (some k)
theorem fX.Zt {Q:St→Prop} 
  (ho:o.op= .call { callee:= .value cx,args:=args.toArray,argTypes:=nL }) (lA:T.cy 0 st cx=some (.fn f fk)) (hf:P.funcs[f]? = some fn) (hb:fn.body.isNone=false)
  (hn : (fn.name == "runtime.NumGoroutine") = false) {ts ts' : List TS} (hx : jI st args = some ts) {h : Hand} {rows CY : List D} {T : Nat → TS} {R : List D → mR → Prop} (hc : eA P f h ts' R) (hRR : ∀ row' r, R row' r → row' = rows ∧ r.row = CY ∧ r.val = T)
  {aK:List (Nat×Nat)} {bx:Option Nat} {kd:Nat} (hC:eZ st h aK bx kd) (hs:aX st aK bx h.k (ts ++ fk.map TS.one) ts') (hok:Wj kd CY.length (T kd)=true)
  (JN:((st.g_ aK h.mem rows kd).cq kd ⟨false,CY.map C.own⟩).put o.dst (T kd)=bD) (hq:Q bD):fX P w0 g0 o st Q:=fun a w g hR K Q' hK=>by
 obtain ⟨us,he,h1,Ie⟩:=hR.P_ lA hx
 have h2:=hs.get
 have jo:=hc w (g.hand w.heap.size aK bx h.k) ((args.map a.eval).toArray ++ us) kd hC.Ww (hR.g_ hC) (by rw [h1,h2.1]) (fun i t' u hi hu=>by
  obtain ⟨t,h3,h4⟩:=h2.2 i t' hi
  exact hR.Ma hC h4 (Ie i t u h3 hu))
 unfold Oper.wp
 rw [tL he ho hf hb hn w]
 refine jo.mono fun e w' ⟨v,row',r,g',he,Yl,hG⟩=> ?_
 subst he
 obtain ⟨rfl,LI,Og⟩:=hRR row' r Yl
 have h5:=hG.val
 rw [Og] at h5
 obtain ⟨g2,Cj,hrow,hval,_⟩:=hR.zP hC hG
 rw [LI] at hrow hval
 have Zq:=Cj.DI hC.Ww (by rw [oH];exact if_pos rfl) hrow
 exact hK _ _ _ _ hq (JN ▸ Zq.put (hval _ _ hok h5) o.dst)
end
end
end Go.Proofs.YtdliggkohdnipaaGreat.T
