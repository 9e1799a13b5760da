import Derived.Test.YtdliggkohdnipaaGreatTzkq
set_option linter.unusedVariables false
set_option linter.unusedSimpArgs false
namespace Go.Proofs.YtdliggkohdnipaaGreat.T
open Go
section
variable {ops:Array Oper} {bs s ws:List Nat} {tl:List Oper} {i:Nat} {o:Oper} {bJ:St} {t:TS}
inductive Ord where
 | done:Ord
 | quiet:Nat→Nat→Ord→Ord
 | fork:Ord→Ord
 | alt:Nat→Ord→Ord→Ord
 | stop:Ord
@[reducible] def Ord.fa (n:Nat) (x:Ord):Ord:=.fork (.alt n x .stop)
def Ord.alts:Ord→List Nat
 | .alt i _ u=>i :: u.alts
 | _=>[]
def Lz (ops:Array Oper) (ws bs s:List Nat) (i b:Nat) (listed:Array Bool):Bool:=match b with
 | 0=>(Region.ready .any ops listed).contains i && Region.free .any ops listed i && !ws.contains i && ws.all (fun k=>listed.getD k false || reaches .any ops ops.size k i)
 | _=>(Region.ready .any ops listed).contains i && Region.free .any ops listed i && !ws.contains i && ws.all (fun k=>bs.contains k || (listed.getD k false || reaches .any ops ops.size k i)) &&
     (List.range ops.size).all (fun j=>j == i && s.all (fun x=>((ops[j]?).bind (·.dst)) != some x) || j != i && (listed.getD j true || s.all fun x=>((ops[j]?).bind (·.dst)) != some x))
def Ord.ok (ops:Array Oper) (ws bs s:List Nat):Ord→Nat→Array Bool→Bool
 | .done,_,listed=>(Region.ready .any ops listed).isEmpty
 | .quiet i b t,n + 1,listed=>Lz ops ws bs s i b listed && t.ok ops ws bs s n (listed.setIfInBounds i true)
 | .quiet _ _ _,0,_=>false
 | .fork t,n,listed=>(Region.ready .any ops listed == t.alts) && t.ok ops ws bs s n listed
 | .alt i t u,n + 1,listed=>(Region.ready .any ops listed).contains i && t.ok ops ws bs s n (listed.setIfInBounds i true) && u.ok ops ws bs s (n + 1) listed
 | .alt _ _ _,0,_=>false
 | .stop,_,_=>true
def NK (P:Program) (ops:Array Oper) (Q:Exit→Act→World→Prop) (ws bs s:List Nat) (i:Nat) (K:Act→World→Prop) (a:Act) (w:World):Prop:=
 if ws.contains i=true then (if bs.contains i=true then Us P ops s i K a w else wpOp P ops Q i K a w) else FZ P ops i K a w
section
variable {P:Program} {w0:World} {g0:Gh} {st:St}
def TT (P:Program) (w0:World) (g0:Gh) (ops:Array Oper) (ws bs s:List Nat) (t:Ord) (st:St) (Q:St→Prop):Prop:=
 ∀ fuel listed,Region.noSelect ops=true→vm .any ops listed→t.ok ops ws bs s fuel listed=true→∀ a w g,Rel w0 g0 st a w g→∀ (Q':Exit→Act→World→Prop),(∀ bJ a' w' g',Q bJ→Rel w0 g0 bJ a' w' g'→Q' .normal a' w')→
  o7 P .any ops Q' ws bs s fuel listed a w
def TA (P:Program) (w0:World) (g0:Gh) (ops:Array Oper) (ws bs s:List Nat) (t:Ord) (st:St) (Q:St→Prop):Prop:=
 ∀ fuel listed,Region.noSelect ops=true→vm .any ops listed→t.ok ops ws bs s (fuel + 1) listed=true→∀ a w g,Rel w0 g0 st a w g→∀ (Q':Exit→Act→World→Prop),(∀ bJ a' w' g',Q bJ→Rel w0 g0 bJ a' w' g'→Q' .normal a' w')→
  ∀ i ∈ t.alts,NK P ops Q' ws bs s i (o7 P .any ops Q' ws bs s fuel (listed.setIfInBounds i true)) a w
theorem TC.Rz {Q:Exit→St→Prop} (ws bs s:List Nat) (t:Ord) (hm:P.follows .mixedOrders=true) (hB:(Region.noSelect ops && t.ok ops ws bs s ops.size (Array.replicate ops.size false))=true) (h:TT P w0 g0 ops ws bs s t st (fun bJ=>Q .normal bJ)):
  TC P w0 g0 (.region i ops true) st Q:=fun a w g hR=>by
 simp only [bh] at hB
 obtain ⟨h1,h3⟩:=hB
 have iU:Rel w0 g0 st a { w with drawn:=w.drawn + 1 } g:=hR.drew
 refine wp_region_any hm (r8 (ws:=ws) (bs:=bs) (s:=s) _ _ _ _ ?_)
 refine h _ _ h1 (fun j o ho hj=> ?_) h3 a _ g iU _ fun bJ a' w' g' hq hr=>⟨bJ,g',hq,hr⟩
 simp [Array.getElem?_replicate] at hj
 split at hj <;> simp at hj
theorem TT.nil {ops:Array Oper} {ws bs s:List Nat} {Q:St→Prop} (h:Q st):TT P w0 g0 ops ws bs s .done st Q:=fun fuel listed hs hc he a w g hR Q' hQ=>by
 have h0:Region.ready .any ops listed=[]:=by simpa [Ord.ok,List.isEmpty_iff] using he
 cases fuel with
 | zero=>exact ⟨h0,hQ st a w g h hR⟩
 | succ n=>exact ⟨fun _=>hQ st a w g h hR,fun i hi=>by rw [h0] at hi;cases hi⟩
theorem TT.fork {ops:Array Oper} {ws bs s:List Nat} {t:Ord} {Q:St→Prop} (h:TA P w0 g0 ops ws bs s t st Q) (hne:t.alts ≠ []):TT P w0 g0 ops ws bs s (.fork t) st Q:=fun fuel listed hs hc he a w g hR Q' hQ=>by
 simp only [Ord.ok,bh,beq_iff_eq] at he
 cases fuel with
 | zero=>
  cases t with
  | alt i t u=>simp [Ord.ok] at he
  | _=>exact absurd rfl hne
 | succ n=>
  refine ⟨fun h0=>absurd (he.1.symm.trans h0) hne,fun i hi=> ?_⟩
  rw [he.1] at hi
  exact h n listed hs hc he.2 a w g hR Q' hQ i hi
theorem TA.stop {Q:St→Prop}:TA P w0 g0 ops ws bs s .stop st Q:=fun fuel listed hs hc he a w g hR Q' hQ i hi=>by cases hi
theorem TA.alt {t u:Ord} {Q:St→Prop} 
  (h:∀ (Q':Exit→Act→World→Prop) (K:Act→World→Prop),(∀ bJ a' w' g',TT P w0 g0 ops ws bs s t bJ Q→Rel w0 g0 bJ a' w' g'→K a' w')→∀ a w g,Rel w0 g0 st a w g→NK P ops Q' ws bs s i K a w) (hu:TA P w0 g0 ops ws bs s u st Q):
  TA P w0 g0 ops ws bs s (.alt i t u) st Q:=fun fuel listed hs hc he a w g hR Q' hQ j hj=>by
 simp only [Ord.ok,bh] at he
 obtain ⟨⟨h1,h2⟩,h3⟩:=he
 rcases m8.1 hj with rfl|hj
 exact h Q' _ (fun bJ a' w' g' hq iU=>hq fuel _ hs (hc.set (by simpa using h1)) h2 a' w' g' iU Q' hQ) a w g hR
 exact hu fuel listed hs hc h3 a w g hR Q' hQ j hj
theorem TT.quiet0 {ops:Array Oper} {ws bs s:List Nat} {i:Nat} {t:Ord} {bJ:St} {Q:St→Prop} {o:Oper} {tl:List Oper} (hne:ws.contains i=false) (uq:ops.toList.drop i=o :: tl)
  (h:∀ a w g,Rel w0 g0 st a w g→∃ v,YV P ops o v a w∧Rel w0 g0 bJ (a.put o.dst v) w g) (hq:TT P w0 g0 ops ws bs s t bJ Q):TT P w0 g0 ops ws bs s (.quiet i 0 t) st Q:=fun fuel listed hs hc he a w g hR Q' hQ=>by
 cases fuel with
 | zero=>simp [Ord.ok] at he
 | succ n=>
  have hi:=rz uq
  simp only [Ord.ok,Lz,bh] at he
  obtain ⟨h1,h2⟩:=he
  obtain ⟨v,hy,iU⟩:=h a w g hR
  have Ry:i ∈ Region.ready .any ops listed:=by simpa using h1.1.1.1
  have hnext:=hq n (listed.setIfInBounds i true) hs (hc.set Ry) h2 _ w g iU Q' hQ
  exact Bq (n:=ops.size) hi (Region.noSelect_spec hs) hne _ listed a w hc (fun k hk=>by simpa using eY.1 h1.2 k hk) (Region.free_spec hi h1.1.1.2) Ry hy hnext
theorem TT.quietS {ops:Array Oper} {ws bs s:List Nat} {i b:Nat} {t:Ord} {bJ:St} {Q:St→Prop} {o:Oper} {tl:List Oper} (hne:ws.contains i=false) (uq:ops.toList.drop i=o :: tl)
  (h:∀ a w g,Rel w0 g0 st a w g→∃ v,YS P ops s o v a w∧Rel w0 g0 bJ (a.put o.dst v) w g) (hq:TT P w0 g0 ops ws bs s t bJ Q):TT P w0 g0 ops ws bs s (.quiet i (b + 1) t) st Q:=fun fuel listed hs hc he a w g hR Q' hQ=>by
 cases fuel with
 | zero=>simp [Ord.ok] at he
 | succ n=>
  have hi:=rz uq
  simp only [Ord.ok,Lz,bh] at he
  obtain ⟨h1,h2⟩:=he
  obtain ⟨v,hy,iU⟩:=h a w g hR
  have Ry:i ∈ Region.ready .any ops listed:=by simpa using h1.1.1.1.1
  have hnext:=hq n (listed.setIfInBounds i true) hs (hc.set Ry) h2 _ w g iU Q' hQ
  have hds:∀ j oj,ops[j]? = some oj→(j=i→∀ x ∈ s,oj.dst ≠ some x)∧(j ≠ i→listed.getD j true=false→∀ x ∈ s,oj.dst ≠ some x):=fun j oj hj=>by
   have h3:=eY.1 h1.2 j (List.mem_range.2 (Array.getElem?_eq_some_iff.1 hj).1)
   rw [hj] at h3
   simp only [Option.bind_some,Bool.or_eq_true,bh,beq_iff_eq,bne_iff_ne,eY] at h3
   refine ⟨fun e=> ?_,fun e hl=> ?_⟩
   rcases h3 with h3|h3
   exact h3.2
   exact absurd e h3.1
   rcases h3 with h3|h3
   exact absurd h3.1 e
   rcases h3.2 with h4|h4
   rw [hl] at h4;cases h4
   exact h4
  exact I6 (n:=ops.size) hi (Region.noSelect_spec hs) hne ((hds i o hi).1 rfl) _ listed a w hc (fun k hk=>by simpa using eY.1 h1.1.2 k hk) (Region.free_spec hi h1.1.1.1.2) (fun j oj hj hji hl=>(hds j oj hj).2 hji hl) Ry hy hnext
theorem TT.U0 {l:Ord} {Q:St→Prop} (hne:ws.contains i=false) (uq:ops.toList.drop i=o :: tl) (hg:yes ops st o) (h:eA P w0 g0 o st t) (hp:st.put o.dst t=bJ) 
  (hq:TT P w0 g0 ops ws bs s l bJ Q):TT P w0 g0 ops ws bs s (.quiet i 0 l) st Q:=TT.quiet0 hne uq (fun a w g hR=>by
 obtain ⟨v,hr,hv⟩:=h a w g hR
 exact ⟨v, .inl ⟨tT hg hR,fun w' Eh=>hr w' Eh.2.2.2.2⟩,hp ▸ hR.put hv o.dst⟩) hq
theorem TT.valS {b:Nat} {l:Ord} {Q:St→Prop} (hne:ws.contains i=false) (uq:ops.toList.drop i=o :: tl) (hg:yes ops st o) (h:I7 P w0 g0 s o st t) (hp:st.put o.dst t=bJ) 
  (hq:TT P w0 g0 ops ws bs s l bJ Q):TT P w0 g0 ops ws bs s (.quiet i (b + 1) l) st Q:=TT.quietS hne uq (fun a w g hR=>by
 obtain ⟨v,hr,hv⟩:=h a w g hR
 exact ⟨v, .inl ⟨tT hg hR,hr⟩,hp ▸ hR.put hv o.dst⟩) hq
theorem TA.opK {l u:Ord} {Q:St→Prop} (hin:ws.contains i=true∧bs.contains i=false) (uq:ops.toList.drop i=o :: tl) (hg:yes ops st o) 
  (h:∀ K:St→Prop,(∀ bJ,TT P w0 g0 ops ws bs s l bJ Q→K bJ)→gJ P w0 g0 o st K) (hu:TA P w0 g0 ops ws bs s u st Q):TA P w0 g0 ops ws bs s (.alt i l u) st Q:=TA.alt (fun Q' K hK a w g hR=>by
 unfold NK
 rw [if_pos hin.1,if_neg (by rw [hin.2];decide)]
 unfold wpOp
 simp only [rz uq,tT hg hR,if_true]
 exact .inl (h _ (fun _ h=>h) a w g hR _ _ fun bJ a' w' g' hq iU=>hK bJ a' w' g' hq iU)) hu
theorem TA.opM {l u:Ord} {Q:St→Prop} (hne:ws.contains i=false) (uq:ops.toList.drop i=o :: tl) (hg:yes ops st o) 
  (h:∀ K:St→Prop,(∀ bJ,TT P w0 g0 ops ws bs s l bJ Q→K bJ)→s3 P w0 g0 o st K) (hu:TA P w0 g0 ops ws bs s u st Q):TA P w0 g0 ops ws bs s (.alt i l u) st Q:=TA.alt (fun Q' K hK a w g hR=>by
 unfold NK
 rw [if_neg (by rw [hne];decide)]
 unfold FZ
 simp only [rz uq,tT hg hR,if_true]
 exact h _ (fun _ h=>h) a w g hR _ fun bJ a' w' g' hq iU=>hK bJ a' w' g' hq iU) hu
end
end
section
variable {aO:List (Nat×Nat)} {K k:Nat} {u:Value}
def Gh.eB (g:Gh) (aO:List (Nat×Nat)) (k K:Nat):Gh where
 o b:=match g.o b with
  | .c6 k' p q=>match p with
   | []=>match idxOf (k',q) aO with|some j=> .c6 k [] j|none=> .ro
   | (q1,i) :: r=>match idxOf (k',q1) aO with|some j=> .c6 k ((j,i) :: r) q|none=> .ro
  | .box _=> .ro
  | t=>t
 ad k' p:=if k'=K then g.ad K p else match p with| []=>(0,0)|(j,i) :: r=>match aO[j]? with|some s=>g.ad s.1 ((s.2,i) :: r)|none=>(0,0)
 cv k' p q:=if k'=K then g.cv K p q else match p with| []=>(match aO[q]? with|some s=>g.cv s.1 [] s.2|none=>undef)|(j,i) :: r=>match aO[j]? with|some s=>g.cv s.1 ((s.2,i) :: r) q|none=>undef
section
variable {P:Program} {w w':World} {g0 g:Gh} {st:St} {a:Act}
theorem F5 (CI:k ≠ K) {c:C} (h:gC w' g c u):gC w' (g.eB aO k K) (DF aO k c) u:=by
 cases c with
 | ro d=>
  cases d with
  | v x=>
   have h3:Ro w' g.o (.v x) u:=h
   cases h3 with
   | v _ hp=>exact Ro.v _ hp
  | _=>trivial
 | own d=>trivial
 | ref pl=>
  obtain ⟨pk,pp,pq⟩:=pl
  simp only [DF]
  split
  ·rename_i j h1 h2
   have:=ff h2
   refine ⟨?_,h.2⟩
   simp only [Gh.eB,this,if_neg CI]
   exact h.1
  ·trivial
 | dead=>trivial
theorem F6 (CI:k ≠ K) {t:TV} (h:eV w' g t u):eV w' (g.eB aO k K) (jo aO k t) u:=by
 cases h with
 | c c u hv=>exact .c _ u (F5 CI hv)
 | agg cs us hs hv=>
  refine .agg _ us (by simpa using hs) fun j c u h1 h2=> ?_
  rw [ec,iX] at h1
  obtain ⟨c',h1,rfl⟩:=h1
  exact F5 CI (hv j c' u h1 h2)
 | _=>exact .dead _
theorem Rel.Ve {h:Hand} (hR:Rel w g0 st a w' g) (hH:Handed w g0 h) (hhm:h.mem=false) {aO:List (Nat×Nat)} (hn:aO.Nodup) {row:List D} (hc:iE st aO=some row) {k:Nat} (hk:k < 1000000) {T:Nat→TS} {v:Value}
  (hv:dN w' (g.eB aO k h.k) (T k) v):ol w g0 h k (h.row.map fun _=> .hole) ⟨row,T⟩ v w' (g.eB aO k h.k):=by
 have CI:k ≠ h.k:=by have:=h.big;omega
 have CC:∀ b,b < w.heap.size→g0.o b= .ro→w'.heap[b]? = w.heap[b]? ∧g.o b= .ro:=fun b hb h1=>by
  obtain ⟨h2,h3⟩:=hR.ks.block b hb (.inl h1)
  exact ⟨h2,h3.trans h1⟩
 have hout:∀ b,b < w'.heap.size→g.o b ≠ .outer:=fun b hb ht=>by
  obtain ⟨h1,h2⟩:=hR.ks.old b hb ht
  rcases hH.own b h1 with h3|h3
  rw [h3] at h2;cases h2
  rw [h2] at h3;cases h3
 have PE:∀ b,b < w'.heap.size→(g.eB aO k h.k).o b= .ro ∨ ((g.eB aO k h.k).o b).gZ = some k:=fun b hb=>by
  simp only [Gh.eB]
  cases ht:g.o b with
  | ro=>exact .inl rfl
  | outer=>exact absurd ht (hout b hb)
  | box k'=>exact .inl rfl
  | c6 k' p q=>
   cases p with
   | nil=>
    simp only
    split
    exact .inr rfl
    exact .inl rfl
   | cons x r=>
    obtain ⟨q1,i⟩:=x
    simp only
    split
    exact .inr rfl
    exact .inl rfl
 have hfresh:∀ b,w'.heap.size ≤ b→(g.eB aO k h.k).o b= .outer:=fun b hb=>by
  have:=hR.ks.fresh b hb
  simp only [Gh.eB,this]
 have hold:∀ b,((g.eB aO k h.k).o b).gZ ≠ none→b < w'.heap.size:=fun b hb=>by
  rcases Nat.lt_or_ge b w'.heap.size with h1|h1
  exact h1
  rw [hfresh b h1] at hb;exact absurd rfl hb
 refine ⟨hR.ks.os,hR.ks.tape,hR.ks.output,hR.ks.size,fun b hb h1=>(CC b hb h1).1,fun b h2 _=> ?_,fun b hb=>⟨?_, ?_⟩,fun q d hq=> ?_,by simp,fun q d hq=> ?_,fun hm q _=> ?_,fun hm=> ?_,hv⟩
 rcases PE b h2 with h|h
 exact .inl h
 exact .inr (.inl h)
 exact hold b (by rcases hb with hb|hb <;> rw [hb] <;> simp)
 rcases Nat.lt_or_ge b w.heap.size with h1|h1
 refine .inr fun h2=> ?_
 have:=(CC b h1 h2).2
 simp only [Gh.eB,this] at hb
 rcases hb with hb|hb <;> cases hb
 exact .inl h1
 obtain ⟨s,h1,h2⟩:=(kG hc).2 q d hq
 have hO:Ow w' g s.1 [] s.2 d:=(hR.cellAt h2).1 d rfl
 have hi:=rO hn h1
 refine Ow.move hO ⟨?_,fun i r q'=> ?_,fun i r=> ?_,fun b hb=>⟨?_,rfl⟩,fun b i r q' hb=>⟨?_,rfl⟩⟩
 simp [Gh.eB,h1,CI]
 simp [Gh.eB,h1,CI]
 simp [Gh.eB,h1,CI]
 simp only [Gh.eB,hb,hi]
 simp only [Gh.eB,hb,List.nil_append,hi]
 rw [ec,iX] at hq
 obtain ⟨_,_,rfl⟩:=hq
 exact .hole [] q
 have hK:h.k=cu:=by simp [Hand.k,hm]
 simp only [Gh.eB,hK,if_true]
 exact hR.ks.v8.1 q
 rw [hhm] at hm;cases hm
theorem eH.P1 {f:FuncId} {fn:Func} {c:Code} {h:Hand} (hhm:h.mem=false) {pts:List TS} {R:nQ→Prop} (hf:P.funcs[f]? = some fn) (hb:fn.body=some c) (hn:pts.length ≤ fn.ntmps)
  (hw:∀ w g0,TC P w g0 c ⟨pts ++ List.replicate (fn.ntmps - pts.length) (.one .dead),[(h.k,⟨h.mem,h.row.map C.own⟩)]⟩ (Ends P fn R)):eH P f h pts (fun row' r=>row'=h.row.map (fun _=> .hole)∧R r):=by
 intro w g args k hk hH hsz hargs
 have gT:∀ k' r,(⟨pts ++ List.replicate (fn.ntmps - pts.length) (.one .dead),[(h.k,⟨h.mem,h.row.map C.own⟩)]⟩:St).root k'=some r→k'=h.k∧r=⟨h.mem,h.row.map C.own⟩:=fun k' r hr=>by
  simp only [St.root,List.find?_cons,List.find?_nil] at hr
  split at hr
  rename_i e
  simp only [Option.map_some,ea] at hr
  exact ⟨(by simpa using e:h.k=k').symm,hr.symm⟩
  cases hr
 refine calls_of_wp hf hb (wp_mono (hw w g _ w g ⟨fun i tv hi=> ?_, ?_,rfl,⟨fun k' r hk' q c hq=> ?_,fun k' r hk' hm=> ?_⟩,⟨rfl,rfl,rfl,gL _,fun b hb _=>⟨rfl,rfl⟩,fun b hb=>hH.out b hb,fun b hb ho=> ?_,⟨fun _=>rfl,rfl⟩,hH.iS⟩⟩) fun e a w' ⟨st,g',hE,hR⟩=> ?_)
 by_cases hlt:i < pts.length
 rw [rZ hlt] at hi
 have hi':i < args.size:=by omega
 have h1:(args ++ Array.replicate (fn.ntmps - args.size) undef).getD i undef=args[i]:=by
  rw [Array.getD_eq_getD_getElem?,Array.getElem?_append_left hi',rY hi']
  rfl
 show dN w g tv ((args ++ Array.replicate (fn.ntmps - args.size) undef).getD i undef)
 rw [h1]
 exact hargs i tv _ hi (rY hi')
 rw [nO (by omega),List.getElem?_replicate] at hi
 split at hi
 simp only [ea] at hi
 subst hi
 exact .one _ _ (.dead _)
 cases hi
 show (args ++ Array.replicate (fn.ntmps - args.size) undef).size=_
 simp [hsz]
 obtain ⟨rfl,rfl⟩:=gT k' r hk'
 rw [ec,iX] at hq
 obtain ⟨d,hq,rfl⟩:=hq
 exact hH.row q d hq
 obtain ⟨rfl,rfl⟩:=gT k' r hk'
 have hm':h.mem=true:=hm
 have hK:h.k=ev:=by simp [Hand.k,hm']
 rw [hK]
 obtain ⟨m1,m2,m3⟩:=hH.mem hm'
 exact ⟨m1,m2,fun q hq=>m3 q (by simpa using hq)⟩
 rcases hH.own b hb with h1|h1
 rw [h1] at ho;cases ho
 rw [ho] at h1;cases h1
 obtain ⟨he,w6,dm,row,h1,h2,h3,h4,h5,h9⟩:=hE
 have CI:k ≠ h.k:=by have:=h.big;omega
 have hlen:w6.length=dm.length:=by
  have:=congrArg List.length h3
  simpa using this
 obtain ⟨us,Rp,Rq,uB⟩:=hR.resultList h3
 have hrun:=qq (P:=P) h1 h2 a.tmps w' Rp Rq
 have zq:∀ (i:Nat) t u,dm[i]? = some t→us[i]? = some u→eV w' (g'.eB (dm.flatMap fR) k h.k) (jo (dm.flatMap fR) k t) u:=fun i t u hi hu=>F6 CI (uB i t u hi hu)
 have hval:dN w' (g'.eB (dm.flatMap fR) k h.k) (oO (dm.map (jo (dm.flatMap fR) k))) (Eg us):=by
  have Ln:∀ l:List Value,l.length=dm.length→(∀ (i:Nat) t u,dm[i]? = some t→l[i]? = some u→eV w' (g'.eB (dm.flatMap fR) k h.k) (jo (dm.flatMap fR) k t) u)→
    dN w' (g'.eB (dm.flatMap fR) k h.k) (.mj (dm.map (jo (dm.flatMap fR) k))) (.tuple l.toArray):=fun l hl hh=>
   .mj _ _ (by simp [hl]) fun j t u hj hu=>by
    rw [ec,iX] at hj
    obtain ⟨t',hj,rfl⟩:=hj
    exact hh j t' u hj (by simpa using hu)
  have hl:=Ln us (by omega) zq
  have X1:us.length=dm.length:=by omega
  clear hrun Rq uB h3 h5 h9 h4
  match us,dm,X1 with
  | [],[],_=>exact hl
  | [t],[tv],_=>exact .one _ _ (zq 0 tv _ rfl rfl)
  | _ :: _ :: _,_ :: _ :: _,_=>exact hl
 have hG:=hR.Ve hH hhm h4 h5 hk (T:=fun k=>oO (dm.map (jo (dm.flatMap fR) k))) hval
 have xd:∃ v,(results fn a.tmps).run P w'= .ok v w'∧∃ v_1 F7 r g',Ending.returned v=Ending.returned v_1∧(F7=h.row.map (fun _=> .hole)∧R r)∧ol w g h k F7 r v_1 w' g':=⟨_,hrun,_,_,_,_,rfl,⟨rfl,h9⟩,hG⟩
 rcases he with rfl|rfl
 exact ⟨hR.df,xd⟩
 exact ⟨hR.df,xd⟩
end
section
variable {P:Program} {w0:World} {g0:Gh} {st:St} {a:Act} {w w':World} {g:Gh}
theorem Rel.Fh (hR:Rel w0 g0 st a w g) (hk:k < 1000000) (hn:st.root k=none) {row:List D} (hr:∀ (q:Nat) d,row[q]? = some d→Ow w g k [] q d):Rel w0 g0 (st.cw k ⟨false,row.map C.own⟩) a w g:=by
 refine ⟨hR.tm,hR.sz,hR.df,⟨fun k' r hk' q c hq=> ?_,fun k' r hk' hm=> ?_⟩,hR.ks⟩
 rw [St.dA] at hk'
 split at hk'
 rename_i e
 subst e
 simp only [ea] at hk'
 subst hk'
 rw [ec,iX] at hq
 obtain ⟨d,hq,rfl⟩:=hq
 exact hr q d hq
 exact hR.rt.cell k' r hk' q c hq
 rw [St.dA] at hk'
 split at hk'
 simp only [ea] at hk'
 subst hk'
 cases hm
 exact hR.rt.mem k' r hk' hm
theorem gJ.call3 {o:Oper} {bJ:St} {Q:St→Prop} {f:FuncId} {cx:Operand} {args:List Operand} {qA:Array TypeId} {fn:Func} 
  (ho:o.op= .call { callee:= .value cx,args:=args.toArray,argTypes:=qA }) (m9:T.cH 0 st cx=some (.fn f [])) (hf:P.funcs[f]? = some fn) (hb:fn.body.isNone=false)
  (hn : (fn.name == "runtime.NumGoroutine") = false) {ts ts' : List TS} (hx : kV st args = some ts) {h : Hand} {rows Ei : List D} {T : Nat → TS} {R : List D → nQ → Prop} (hc : eH P f h ts' R) (hRR : ∀ row' r, R row' r → row' = rows ∧ r.row = Ei ∧ r.val = T)
  {aO:List (Nat×Nat)} {bx:Option Nat} {kd:Nat} (hC:fO st h aO bx kd) (hs:bk st aO bx h.k ts ts') (hok:X0 kd Ei.length (T kd)=true)
  (Nx:((st.iJ aO h.mem rows kd).cw kd ⟨false,Ei.map C.own⟩).put o.dst (T kd)=bJ) (hq:Q bJ):gJ P w0 g0 o st Q:=fun a w g hR K Q' hK=>by
 have h1:=hR.kV hx
 have h2:=hs.get
 have kX:=hc w (g.hand w.heap.size aO bx h.k) (args.map a.eval).toArray kd hC.Yb (hR.iJ hC) (by simp [h1.1,h2.1]) (fun i t' u hi hu=>by
  obtain ⟨t,h3,h4⟩:=h2.2 i t' hi
  exact hR.NE hC h4 (h1.2 i t u h3 (by simpa using hu)))
 unfold Oper.wp
 rw [mq hR ho m9 hf hb hn w]
 refine kX.mono fun e w' ⟨v,row',r,g',he,hrr,hG⟩=> ?_
 subst he
 obtain ⟨rfl,Tc,PW⟩:=hRR row' r hrr
 have h5:=hG.val
 rw [PW] at h5
 obtain ⟨g2,DG,hrow,hval,_⟩:=hR.Bo hC hG
 rw [Tc] at hrow hval
 have hR3:=DG.Fh hC.Yb (by rw [qB];exact if_pos rfl) hrow
 exact hK _ _ _ _ hq (Nx ▸ hR3.put (hval _ _ hok h5) o.dst)
end
end
section
variable {qA:Array TypeId} {fn:Func} {f:FuncId} {args:List Operand} {fV:List TV} {o:Oper} {cx:Operand} {bJ:St}
section
variable {P:Program} {w0:World} {g0:Gh} {st:St}
section
variable {a:Act} {w:World} {g:Gh}
theorem Rel.RA (hR:Rel w0 g0 st a w g) {cx:Operand} {f:FuncId} {fV:List TV} (m9:T.cH 0 st cx=some (.fn f fV)) {args:List Operand} {ts:List TS} (hx:T.kV st args=some ts):
  ∃ us:Array Value,a.eval cx= .func (.func f) #[] us∧((args.map a.eval).toArray ++ us).size=(ts ++ fV.map TS.one).length∧
   ∀ (i:Nat) t u,(ts ++ fV.map TS.one)[i]? = some t→((args.map a.eval).toArray ++ us)[i]? = some u→dN w g t u:=by
 have h1:=hR.kV hx
 have h2:=hR.cH m9
 generalize a.eval cx=v at h2
 cases h2 with
 | fn _ _ us hs h=>
  refine ⟨us,rfl,by simp [h1.1,hs],fun i t u hi hu=> ?_⟩
  by_cases hlt:i < ts.length
  rw [rZ hlt] at hi
  rw [Array.getElem?_append_left (by simp [← h1.1,hlt])] at hu
  exact h1.2 i t u hi (by simpa using hu)
  rw [nO (by omega),ec,iX] at hi
  obtain ⟨tv,hi,rfl⟩:=hi
  rw [Array.getElem?_append_right (by simp [h1.1];omega)] at hu
  have hl:(args.map a.eval).toArray.size=ts.length:=by simp [h1.1]
  rw [hl] at hu
  exact .one _ _ (h _ tv u hi hu)
theorem vp {us:Array Value} (he:a.eval cx= .func (.func f) #[] us) 
  (ho:o.op= .call { callee:= .value cx,args:=args.toArray,argTypes:=qA }) (hf:P.funcs[f]? = some fn) (hb:fn.body.isNone=false)
  (hn : (fn.name == "runtime.NumGoroutine") = false) (w' : World) : (execOp a.eval o).run P w' = .ok (.enter f ((args.map a.eval).toArray ++ us)) w' := by
 have hn' : ¬ fn.name = "runtime.NumGoroutine" := by simpa using hn
 have hb':¬ fn.body=none:=fun e=>by rw [e] at hb;cases hb
 simp [execOp,ho,resolve,he,Deferred.ofValue,invoke,callFunc,hf,hn',hb']
end
theorem eA.makeFunc {o:Oper} {f:FuncId} {cs:List Operand} {ts:List TS} {dm:List TV} (ho:o.op= .makeFunc (.func f) #[] cs.toArray) (hx:kV st cs=some ts) (ht:ts=dm.map TS.one):eA P w0 g0 o st (.fn f dm):=fun a w g hR=>by
 have h1:=hR.kV hx
 subst ht
 refine ⟨.func (.func f) #[] (cs.map a.eval).toArray,fun w' _=> ?_, .fn f dm _ (by simpa using h1.1.symm) fun j t u hj hu=> ?_⟩
 simp [execOp,ho,Instr.makeFunc]
 have h2:=h1.2 j (.one t) u (by simp [hj]) (by simpa using hu)
 cases h2 with
 | one _ _ h=>exact h
theorem s3.callFC {Q:St→Prop} 
  (ho:o.op= .call { callee:= .value cx,args:=args.toArray,argTypes:=qA }) (m9:T.cH 0 st cx=some (.fn f fV)) (hf:P.funcs[f]? = some fn) (hb:fn.body.isNone=false)
  (hn : (fn.name == "runtime.NumGoroutine") = false) {ts ts' : List TS} (hx : kV st args = some ts) {t : TS} {x : Value} (hc : Ao P w0 g0 f ts' (RP t)) (hs : uz st (ts ++ fV.map TS.one) ts') (hp : qw t = some x)
  (Nx:st.put o.dst t=bJ) (hq:Q bJ):s3 P w0 g0 o st Q:=fun a w g hR K' Lu=>by
 obtain ⟨us,he,h1,JL⟩:=hR.RA m9 hx
 have h2:=hs.get
 have kX:=hc w hR.ks.kept { g with o:=jn w } ((args.map a.eval).toArray ++ us) 0 rfl (by rw [h1,h2.1]) (fun i t' u hi hu=>by
  obtain ⟨t,h3,h4⟩:=h2.2 i t' hi
  exact hR.tS h4 (JL i t u h3 hu) _ rfl)
 rw [vp he ho hf hb hn w]
 refine ⟨hJ.refl w,kX.mono fun e w' ⟨v,r,g',he,hr,hG⟩=> ?_⟩
 have h5:=hG.val
 rw [hr] at h5
 have h6:=(iO hp).1 h5
 subst h6
 exact ⟨v,he,hG.later,Lu _ _ _ _ hq (Nx ▸ (hR.later hG.later).put ((iO hp).2 rfl) o.dst)⟩
theorem s3.callGC {Q:St→Prop} (ho:o.op= .call { callee:= .value cx,args:=args.toArray,argTypes:=qA }) 
  (m9:T.cH 0 st cx=some (.fn f fV)) (hf:P.funcs[f]? = some fn) (hb:fn.body.isNone=false)
  (hn : (fn.name == "runtime.NumGoroutine") = false) {k : Nat} (hd : o.dst = some k) {ts ts' : List TS} (hx : kV st args = some ts) (hs : uz st (ts ++ fV.map TS.one) ts') {l : List RD} (hc : Ao P w0 g0 f ts' (RG l))
  (hok:(fh l).all Uq=true) (hq:Q ((st.fresh k ⟨false,((fh l).filter zw).map C.own⟩).put (some k) (oO (s9 k 0 l)))) (hkp:k < 1000000:=by decide):s3 P w0 g0 o st Q:=fun a w g hR K hK=>by
 obtain ⟨us,he,h1,JL⟩:=hR.RA m9 hx
 have h2:=hs.get
 have kX:=hc w hR.ks.kept { g with o:=jn w } ((args.map a.eval).toArray ++ us) k rfl (by rw [h1,h2.1]) (fun i t' u hi hu=>by
  obtain ⟨t,h3,h4⟩:=h2.2 i t' hi
  exact hR.tS h4 (JL i t u h3 hu) _ rfl)
 rw [vp he ho hf hb hn w]
 refine ⟨hJ.refl w,kX.mono fun e w' ⟨v,r,g',he,hr,hG⟩=> ?_⟩
 subst hr
 obtain ⟨g2,DG,hv2⟩:=hR.called hkp hG (uD hok)
 refine ⟨v,he,hG.later,hK _ _ _ g2 hq ?_⟩
 rw [hd]
 exact DG.put hv2 (some k)
theorem gJ.call3C {Q:St→Prop} 
  (ho:o.op= .call { callee:= .value cx,args:=args.toArray,argTypes:=qA }) (m9:T.cH 0 st cx=some (.fn f fV)) (hf:P.funcs[f]? = some fn) (hb:fn.body.isNone=false)
  (hn : (fn.name == "runtime.NumGoroutine") = false) {ts ts' : List TS} (hx : kV st args = some ts) {h : Hand} {rows Ei : List D} {T : Nat → TS} {R : List D → nQ → Prop} (hc : eH P f h ts' R) (hRR : ∀ row' r, R row' r → row' = rows ∧ r.row = Ei ∧ r.val = T)
  {aO:List (Nat×Nat)} {bx:Option Nat} {kd:Nat} (hC:fO st h aO bx kd) (hs:bk st aO bx h.k (ts ++ fV.map TS.one) ts') (hok:X0 kd Ei.length (T kd)=true)
  (Nx:((st.iJ aO h.mem rows kd).cw kd ⟨false,Ei.map C.own⟩).put o.dst (T kd)=bJ) (hq:Q bJ):gJ P w0 g0 o st Q:=fun a w g hR K Q' hK=>by
 obtain ⟨us,he,h1,JL⟩:=hR.RA m9 hx
 have h2:=hs.get
 have kX:=hc w (g.hand w.heap.size aO bx h.k) ((args.map a.eval).toArray ++ us) kd hC.Yb (hR.iJ hC) (by rw [h1,h2.1]) (fun i t' u hi hu=>by
  obtain ⟨t,h3,h4⟩:=h2.2 i t' hi
  exact hR.NE hC h4 (JL i t u h3 hu))
 unfold Oper.wp
 rw [vp he ho hf hb hn w]
 refine kX.mono fun e w' ⟨v,row',r,g',he,hrr,hG⟩=> ?_
 subst he
 obtain ⟨rfl,Tc,PW⟩:=hRR row' r hrr
 have h5:=hG.val
 rw [PW] at h5
 obtain ⟨g2,DG,hrow,hval,_⟩:=hR.Bo hC hG
 rw [Tc] at hrow hval
 have hR3:=DG.Fh hC.Yb (by rw [qB];exact if_pos rfl) hrow
 exact hK _ _ _ _ hq (Nx ▸ hR3.put (hval _ _ hok h5) o.dst)
end
end
end Go.Proofs.YtdliggkohdnipaaGreat.T
