import Derived.Test.YtdliggkohdnipaaGreatPcr
import Derived.Test.YtdliggkohdnipaaGreatRpr
import Derived.Test.YtdliggkohdnipaaGreatNsr
set_option linter.unusedVariables false
set_option linter.unusedSimpArgs false
namespace Go.Proofs.YtdliggkohdnipaaGreat.T
open Go
section
variable {n p:Int} {l:List Int} {gs:List av} {i:Nat} {b:aV} {y:av}
set_option maxRecDepth 100000
set_option maxHeartbeats 8000000
abbrev Q4 (n:Int) (g:av):av:={ g with ax:=(e_ g.ax n).getD g.ax }
abbrev nF (gs:List av) (n:Int) (i:Nat):Bool:=pG (gs[i]?.getD tT).iG n
abbrev ki (b:aV) (n:Int):List Int:=cz (nF b.aa n) b.aa.length
def jG (n:Int) (gs:List av) (l:List Int):List av:=l.foldl (fun gs i=>gs.set i.toNat (Q4 n (gs[i.toNat]?.getD tT))) gs
theorem zq {n:Int}:∀ {l:List Int} {gs:List av},(jG n gs l).length=gs.length
 | [],gs=>rfl
 | i :: l,gs=>by
  show (jG n (gs.set _ _) l).length=_
  rw [zq,List.length_set]
theorem CP {i:Int}:jG n gs (l ++ [i])=(jG n gs l).set i.toNat (Q4 n ((jG n gs l)[i.toNat]?.getD tT)):=by
 unfold jG
 rw [List.foldl_append]
 rfl
theorem CQ (hp:l[i]? = some p) (hy:(jG n gs (l.take i))[p.toNat]? = some y):jG n gs (l.take (i + 1))=(jG n gs (l.take i)).set p.toNat (Q4 n y):=by
 rw [List.take_add_one,hp]
 show jG n gs (l.take i ++ [p])=_
 rw [CP,hy]
 rfl
theorem Jp {P:Nat→Bool} {n:Nat} (h:(cz P n)[i]? = some p):0 ≤ p∧p < n:=by
 have h1:=List.mem_of_getElem? h
 simp only [cz,List.mem_map,List.mem_filter,List.mem_range] at h1
 obtain ⟨k,h2,rfl⟩:=h1
 omega
theorem Nx {n:Int} {gs:List av}:∀ {k:Nat},k ≤ gs.length→jG n gs (cz (nF gs n) k)=(gs.take k).map (oh n) ++ gs.drop k
 | 0,_=>by simp [Cy,jG]
 | k + 1,hk=>by
  have ih:=Nx (n:=n) (gs:=gs) (k:=k) (by omega)
  have hg:gs[k]? = some gs[k]:=List.getElem?_eq_getElem (by omega)
  have hd:gs.drop k=gs[k] :: gs.drop (k + 1):=List.drop_eq_getElem_cons (by omega)
  have hl:((gs.take k).map (oh n)).length=k:=by simp;omega
  have e1:(gs.take (k + 1)).map (oh n)=(gs.take k).map (oh n) ++ [oh n gs[k]]:=by rw [List.take_add_one,hg,List.map_append];rfl
  rw [eG,e1]
  have hb:nF gs n k=pG gs[k].iG n:=by show pG (gs[k]?.getD tT).iG n=_;rw [hg];rfl
  split
  rename_i hp
  rw [hb] at hp
  rw [CP,ih,Int.toNat_natCast,List.getElem?_append_right (by omega),List.set_append_right _ _ (by omega),hl,Nat.sub_self,hd,List.set_cons_zero,List.append_assoc]
  rw [show oh n gs[k]=Q4 n gs[k] from if_pos hp]
  rfl
  rename_i hp
  rw [hb] at hp
  rw [List.append_nil,ih,hd,List.append_assoc]
  rw [show oh n gs[k]=gs[k] from if_neg hp]
  rfl
theorem Ny:(cz (nF gs n) gs.length).length=0 ↔ gs.any (fun g=>pG g.iG n)=false:=by
 rw [List.length_eq_zero_iff,cz,List.map_eq_nil_iff,List.filter_eq_nil_iff,List.any_eq_false]
 constructor
 intro h g hg
 obtain ⟨j,hj⟩:=List.getElem?_of_mem hg
 have:=h j (List.mem_range.2 (List.getElem?_eq_some_iff.1 hj).1)
 unfold nF at this
 rw [hj] at this
 exact this
 intro h j hj
 have hj:=List.mem_range.1 hj
 have hg:gs[j]? = some gs[j]:=List.getElem?_eq_getElem hj
 unfold nF
 rw [hg]
 exact h _ (List.getElem_mem hj)
theorem D9 (h:dm b=false ∨ ¬ (0 ≤ n∧n ≤ 7)):cF b n=none:=by
 unfold cF
 refine if_neg fun e=> ?_
 simp only [Bool.and_eq_true,j7,decide_eq_true_eq] at e
 rcases h with h|h
 rw [h] at e;exact absurd e.1 (by decide)
 exact h e.2
theorem Vl (h:dm b=true) (h1:0 ≤ n∧n ≤ 7) (hi:(ki b n).length ≤ i) (h0:¬ (ki b n).length=0):cF b n=some { b with aa:=jG n b.aa ((ki b n).take i) }:=by
 unfold cF
 rw [if_pos (by simp only [Bool.and_eq_true,j7,decide_eq_true_eq];exact ⟨h,h1⟩),List.take_of_length_le hi,if_pos]
 unfold ki;rw [Nx (Nat.le_refl _)];simp
 rw [← Bool.not_eq_false];exact fun e=>h0 (Ny.2 e)
theorem Vm (h:dm b=true) (h1:0 ≤ n∧n ≤ 7) (hi:(ki b n).length ≤ i) (h0:(ki b n).length=0):cF b n=some { b with aa:=jG n b.aa ((ki b n).take i),ax:=(e_ b.ax n).getD b.ax }:=by
 unfold cF
 rw [if_pos (by simp only [Bool.and_eq_true,j7,decide_eq_true_eq];exact ⟨h,h1⟩),List.take_of_length_le hi,if_neg]
 rw [List.length_eq_zero_iff.1 h0];rfl
 rw [Ny.1 h0];decide
theorem Vn (hy:b.aa[i]? = some y) (h:pG y.iG n=true):(cz (nF b.aa n) (i + 1)).map bH=(cz (nF b.aa n) i).map bH ++ [bH i]:=by
 have:nF b.aa n i=true:=by unfold nF;rw [hy];exact h
 rw [eG,this];simp
theorem YL (hy:b.aa[i]? = some y) (h:pG y.iG n=false):(cz (nF b.aa n) (i + 1)).map bH=(cz (nF b.aa n) i).map bH:=by
 have:nF b.aa n i=false:=by unfold nF;rw [hy];exact h
 rw [eG,this];simp
theorem Pu (h:dm b=false ∨ (gp b.ax).isSome=false):fB b=none:=by
 unfold fB
 split
 rename_i hb
 rcases h with h|h
 rw [h] at hb;cases hb
 cases e:gp b.ax with
 | none=>rfl
 | some q=>rw [e] at h;cases h
 rfl
abbrev B3 (b:aV):aV:=((fB b).map Prod.fst).getD b
abbrev tr (b:aV):Int:=((fB b).map Prod.snd).getD (-1)
theorem XH (h:dm b=true):fB b=(gp b.ax).map fun q=>({ b with ax:=q.1 },q.2):=if_pos h
theorem Q5 (h:dm b=true):cR [RD.a (bC (B3 b)),RD.c (.v (.int .i64 (tr b))),RD.c (.v (.bool (fB b).isSome))]
  = cR [RD.a [.sl 1 (b.au.map aN), .sl 15 (b.aa.map aY), .sl 1 (b.bX.map bH), .v (.int .i64 ((gp b.ax).elim b.ax (·.1)))],RD.c (.v (.int .i64 ((gp b.ax).elim (-1) (·.2)))),RD.c (.v (.bool (gp b.ax).isSome))]:=by
 unfold B3 tr
 rw [XH h]
 cases gp b.ax <;> rfl
theorem Di (b:aV) (n:Int) [Q (aW b)]:aF Tryz.prog 455 [A (bC b),I n] (RL 1 ((ki b n).map bH)):=by
 refine aF.w 28 Tryz.func455 fun w g0 hM=> ?_
 have eK:=hM.1.2.1.map
 refine cI [1,2,4,5] [5] [5] (fun (i:Nat)=>[.set 6 (I i)]) (fun (i:Nat)=>[(5,⟨false,[.own (.sl 1 ((cz (nF b.aa n) i).map bH))]⟩)]) (fun (i:Nat)=>i ≤ b.aa.length) (fun (i:Nat)=>b.aa.length - i) (0) (Nat.zero_le _) ?_
 refine ⟨hda,fun i hyp N1 bw=> ?_⟩
 have hyp:i ≤ b.aa.length:=hyp
 have hr0:= @gQ (nF b.aa n) i
 have O2:=(inferInstance:dc b.aa 1048576).h
 refine len ?_
 refine aB ?_ ?_ <;> intro hb
 ·obtain ⟨y,hy⟩:∃ y,b.aa[i]? = some y:=⟨_,List.getElem?_eq_getElem (by omega)⟩
  refine fN hy ?_
  skip
  refine ah (Ku _ _).k ?_
  refine aB ?_ ?_ <;> intro gY
  ·refine ES ?_
   refine cD ?_
   refine bw _ _ _ ?_
   refine iF (i + 1) (by omega) (by repeat' first|exact rfl|refine And.intro ?_ ?_|exact True.intro|(refine eV ?_;rw [Vn (by assumption) (by assumption)];done))
  ·refine cD ?_
   refine bw _ _ _ ?_
   refine iF (i + 1) (by omega) (by repeat' first|exact rfl|refine And.intro ?_ ?_|exact True.intro|(refine eV ?_;rw [YL (by assumption) (by assumption)];done))
 ·refine bw _ _ _ ?_
  exact (by obtain rfl:i=b.aa.length:=(by omega);rfl)
theorem Dj (b:aV) (n:Int) [Q (aW b)]:aF Tryz.prog 408 [A (bC b),I n] (RL 1 ((ki b n).map bH)):=by
 refine aF.w 27 Tryz.func408 fun w g0 hM=> ?_
 have eK:=hM.1.2.1.map
 refine len ?_
 refine cI [1,4,5,10,11] [5] [5] (fun (i:Nat)=>[.set 12 (I i)]) (fun (i:Nat)=>[(5,⟨false,[.own (.sl 1 ((cz (nF b.aa n) i).map bH))]⟩)]) (fun (i:Nat)=>i ≤ b.aa.length) (fun (i:Nat)=>b.aa.length - i) (0) (Nat.zero_le _) ?_
 refine ⟨hda,fun i hyp N1 bw=> ?_⟩
 have hyp:i ≤ b.aa.length:=hyp
 have hr0:= @gQ (nF b.aa n) i
 have O2:=(inferInstance:dc b.aa 1048576).h
 refine aB ?_ ?_ <;> intro hb
 ·obtain ⟨y,hy⟩:∃ y,b.aa[i]? = some y:=⟨_,List.getElem?_eq_getElem (by omega)⟩
  refine fN hy ?_
  skip
  refine ah (Kv _ _).k ?_
  refine aB ?_ ?_ <;> intro gY
  ·refine ES ?_
   refine cD ?_
   refine bw _ _ _ ?_
   refine iF (i + 1) (by omega) (by repeat' first|exact rfl|refine And.intro ?_ ?_|exact True.intro|(refine eV ?_;rw [Vn (by assumption) (by assumption)];done))
  ·refine cD ?_
   refine bw _ _ _ ?_
   refine iF (i + 1) (by omega) (by repeat' first|exact rfl|refine And.intro ?_ ?_|exact True.intro|(refine eV ?_;rw [YL (by assumption) (by assumption)];done))
 ·refine bw _ _ _ ?_
  exact (by obtain rfl:i=b.aa.length:=(by omega);rfl)
theorem Dk (b:aV) (n:Int) [Q (aW b)]:aF Tryz.prog 355 [A (bC b),I n] (RG [.a (bC ((cF b n).getD b)), .c (.v (.bool (cF b n).isSome))]):=by
 refine aF.w 62 Tryz.func355 fun w g0 hM=> ?_
 have eK:=hM.1.2.1.map
 refine ak (gD b).k ?_
 refine ah (sw _).k ?_
 refine aB ?_ ?_ <;> intro gm
 ·exact (by rw [D9 (by left;assumption)];rfl)
 ·refine ah (aE _ _ _).k ?_
  refine aB ?_ ?_ <;> intro hb
  ·exact (by rw [D9 (by right;omega)];rfl)
  ·refine bk (Di b n).k ?_
   refine cI [1,2,4,5,6] [] [2] (fun (i:Nat)=>[.set 7 (I i)]) (fun (i:Nat)=>[(2,⟨true,[.own (.sl 1 (b.au.map aN)), .own (.sl 15 ((jG n b.aa ((ki b n).take i)).map aY)), .own (.sl 1 (b.bX.map bH)), .own (.v (.int .i64 b.ax))]⟩)]) (fun (i:Nat)=>i ≤ (ki b n).length) (fun (i:Nat)=>(ki b n).length - i) (0) (Nat.zero_le _) ?_
   refine ⟨hda,fun i hyp N1 bw=> ?_⟩
   have hyp:i ≤ (ki b n).length:=hyp
   have hll:(ki b n).length ≤ b.aa.length:=gQ
   have O2:=(inferInstance:dc b.aa 1048576).h
   refine len ?_
   refine aB ?_ ?_ <;> intro gY
   ·obtain ⟨p,hp⟩:∃ p,(ki b n)[i]? = some p:=⟨_,List.getElem?_eq_getElem (by omega)⟩
    have hpr:=Jp hp
    have hptl:(jG n b.aa ((ki b n).take i)).length=b.aa.length:=zq
    obtain ⟨y,hy⟩:∃ y,(jG n b.aa ((ki b n).take i))[p.toNat]? = some y:=⟨_,List.getElem?_eq_getElem (by omega)⟩
    refine fW [22] [22] [] (.quiet 2 1 (.quiet 3 1 (.quiet 8 1 (.quiet 9 1 (.quiet 15 1 (.quiet 0 0 (.quiet 1 0 (.quiet 4 0 (.quiet 5 0 (.quiet 6 0 (.quiet 7 0 (.quiet 10 0 (.quiet 11 0 (.quiet 12 0 (.quiet 13 0 (.quiet 14 0 (.fork (.alt 16 (.quiet 17 1 (.quiet 18 1 (.quiet 19 1 (.quiet 20 0 (.quiet 21 0 (.fork (.alt 22 .done .stop))))))) .stop)))))))))))))))))) ?_
    repeat' first|exact True.intro|refine And.intro ?_ ?_|(intro _ _)|refine cS ?_|refine aZ ?_|refine aI (by assumption) ?_|refine ak (qT y.ax n).k ?_
    refine cD ?_
    refine bw _ _ _ ?_
    refine iF (i + 1) (by omega) (by repeat' first|exact rfl|refine And.intro ?_ ?_|exact True.intro|(refine eV ?_;rw [CQ hp hy,List.map_set];done))
   ·refine bw _ _ _ ?_
    refine len ?_
    refine aB ?_ ?_ <;> intro tY
    ·refine ak (qT b.ax n).k ?_
     exact (by rw [Vm (i:=i) (by assumption) (by omega) (by omega) (by omega)];rfl)
    ·exact (by rw [Vl (i:=i) (by assumption) (by omega) (by omega) (by omega)];rfl)
theorem Dl (b:aV) (n:Int) [Q (aW b)]:aF Tryz.prog 290 [A (bC b),I n] (RG [.a (bC ((cF b n).getD b)), .c (.v (.bool (cF b n).isSome))]):=by
 refine aF.w 59 Tryz.func290 fun w g0 hM=> ?_
 have eK:=hM.1.2.1.map
 refine ak (cN b).k ?_
 refine ah (kp _).k ?_
 refine aB ?_ ?_ <;> intro gm
 ·exact (by rw [D9 (by left;assumption)];rfl)
 ·refine ah (aS _ _ _).k ?_
  refine aB ?_ ?_ <;> intro hb
  ·exact (by rw [D9 (by right;omega)];rfl)
  ·refine bk (Dj b n).k ?_
   refine len ?_
   refine cI [1,4,5,6,7,24,25] [] [6] (fun (i:Nat)=>[.set 26 (I i)]) (fun (i:Nat)=>[(6,⟨true,[.own (.sl 1 (b.au.map aN)), .own (.sl 15 ((jG n b.aa ((ki b n).take i)).map aY)), .own (.sl 1 (b.bX.map bH)), .own (.v (.int .i64 b.ax))]⟩)]) (fun (i:Nat)=>i ≤ (ki b n).length) (fun (i:Nat)=>(ki b n).length - i) (0) (Nat.zero_le _) ?_
   refine ⟨hda,fun i hyp N1 bw=> ?_⟩
   have hyp:i ≤ (ki b n).length:=hyp
   have hll:(ki b n).length ≤ b.aa.length:=gQ
   have O2:=(inferInstance:dc b.aa 1048576).h
   refine aB ?_ ?_ <;> intro gY
   ·obtain ⟨p,hp⟩:∃ p,(ki b n)[i]? = some p:=⟨_,List.getElem?_eq_getElem (by omega)⟩
    have hpr:=Jp hp
    have hptl:(jG n b.aa ((ki b n).take i)).length=b.aa.length:=zq
    obtain ⟨y,hy⟩:∃ y,(jG n b.aa ((ki b n).take i))[p.toNat]? = some y:=⟨_,List.getElem?_eq_getElem (by omega)⟩
    refine cS ?_
    refine aI (by assumption) ?_
    refine fW [16] [16] [] (.quiet 2 1 (.quiet 5 1 (.quiet 9 1 (.quiet 0 0 (.quiet 1 0 (.quiet 3 0 (.quiet 4 0 (.quiet 6 0 (.quiet 7 0 (.quiet 8 0 (.fork (.alt 10 (.quiet 11 1 (.quiet 12 1 (.quiet 13 1 (.quiet 14 0 (.quiet 15 0 (.fork (.alt 16 .done .stop))))))) .stop)))))))))))) ?_
    repeat' first|exact True.intro|refine And.intro ?_ ?_|(intro _ _)|refine aZ ?_|refine aI (by assumption) ?_|refine ak (qU y.ax n).k ?_
    refine cD ?_
    refine bw _ _ _ ?_
    refine iF (i + 1) (by omega) (by repeat' first|exact rfl|refine And.intro ?_ ?_|exact True.intro|(refine eV ?_;rw [CQ hp hy,List.map_set];done))
   ·refine bw _ _ _ ?_
    refine len ?_
    refine aB ?_ ?_ <;> intro tY
    ·refine ak (qU b.ax n).k ?_
     exact (by rw [Vm (i:=i) (by assumption) (by omega) (by omega) (by omega)];rfl)
    ·exact (by rw [Vl (i:=i) (by assumption) (by omega) (by omega) (by omega)];rfl)
theorem Gp (b:aV) [Q (aW b)]:aF Tryz.prog 356 [A (bC b)] (RG [.a (bC (B3 b)), .c (.v (.int .i64 (tr b))), .c (.v (.bool (fB b).isSome))]):=by
 refine aF.w 26 Tryz.func356 fun w g0 _=> ?_
 refine ak (gD b).k ?_
 refine ah (sw _).k ?_
 refine aB ?_ ?_ <;> intro hb
 exact (by show _=cR [RD.a (bC (B3 b)),RD.c (.v (.int .i64 (tr b))),_];unfold B3 tr;rw [Pu (by left;assumption)];rfl)
 refine ak (vE b.ax).k ?_
 exact (by show _=cR [RD.a (bC (B3 b)),RD.c (.v (.int .i64 (tr b))),RD.c (.v (.bool (fB b).isSome))];rw [Q5 (by assumption)];rfl)
theorem Gq (b:aV) [Q (aW b)]:aF Tryz.prog 292 [A (bC b)] (RG [.a (bC (B3 b)), .c (.v (.int .i64 (tr b))), .c (.v (.bool (fB b).isSome))]):=by
 refine aF.w 30 Tryz.func292 fun w g0 _=> ?_
 refine ak (cN b).k ?_
 refine ak (vF b.ax).k ?_
 refine ah (kp _).k ?_
 refine aB ?_ ?_ <;> intro gm
 exact (by show _=cR [RD.a (bC (B3 b)),RD.c (.v (.int .i64 (tr b))),_];unfold B3 tr;rw [Pu (by left;assumption)];rfl)
 refine aB ?_ ?_ <;> intro hb
 exact (by show _=cR [RD.a (bC (B3 b)),RD.c (.v (.int .i64 (tr b))),_];unfold B3 tr;rw [Pu (by right;assumption)];rfl)
 exact (by show _=cR [RD.a (bC (B3 b)),RD.c (.v (.int .i64 (tr b))),RD.c (.v (.bool (fB b).isSome))];rw [Q5 (by assumption),show (gp b.ax).isSome=true from by assumption];rfl)
end
set_option maxRecDepth 100000
set_option maxHeartbeats 8000000
theorem Ld (a:gn):aF Tryz.prog 216 [A (BG a)] (RV (.bool (I4 a))):=by
 refine aF.w 6 Tryz.func216 fun w g0 _=> ?_
 refine ah (aE _ _ _).k ?_
 exact rfl
theorem Gr (k:Int):aF Tryz.prog 77 [I k] (RV (.bool (tV k))):=by
 refine aF.w 5 Tryz.func77 fun w g0 _=> ?_
 refine ah (aE _ _ _).k ?_
 exact rfl
theorem Le (a:gn):aF Tryz.prog 225 [A (BG a)] (RP (A (s0 (CC a)))):=by
 refine aF.w 11 Tryz.func225 fun w g0 _=> ?_
 exact rfl
theorem Lh (a:gn):aF Tryz.prog 167 [A (BG a)] (RP (A (s0 (CC a)))):=by
 refine aF.w 11 Tryz.func167 fun w g0 _=> ?_
 exact rfl
section
variable {g p v:Int} {b:aV}
set_option maxRecDepth 100000
set_option maxHeartbeats 8000000
theorem n8 {f:av→Option av} (hb:aW b) (hf:∀ x y,aG x→f x=some y→aG y):∀ c,gJ b g f=some c→aW c:=by
 intro c hc
 unfold gJ at hc
 split at hc
 cases hx:kS b.aa g with
 | none=>rw [hx] at hc;cases hc
 | some x=>
  rw [hx] at hc
  have hc:(f x).map (bW b g)=some c:=hc
  cases hy:f x with
  | none=>rw [hy] at hc;cases hc
  | some y=>
   rw [hy] at hc
   simp only [Option.map_some,Option.some.injEq] at hc
   subst hc
   refine Xw hb (hf x y ?_ hy)
   have:=Gb (g:=g) hb
   rwa [ri hx] at this
 cases hc
theorem Se {x:av} (h:aG x):aG (qN x v):=
 have:Q (aG x):=⟨h⟩
 (inferInstance:Q (aG (qN x v))).h
theorem ux {p:Prop} {_:Decidable p} {α:Type} {x y: α} (h:(if p then some x else none)=some y):x=y:=by
 split at h
 cases h;rfl
 cases h
theorem Li {s:aL} (hb:aW b):∀ c,d_ b g p s=some c→aW c:=n8 hb fun x y hx h=>by rw [← ux h];exact K7 hx
theorem xu (hb:aW b):∀ c,dO b g p=some c→aW c:=n8 hb fun x y hx h=>by rw [← ux h];exact Jl hx
theorem xw (hb:aW b):∀ c,b_ b g v=some c→aW c:=n8 hb fun x y hx h=>by
 rw [← ux h]
 split <;> exact hx
theorem xx (hb:aW b):∀ c,cg b g=some c→aW c:=n8 hb fun x y hx h=>by
 split at h
 cases h;exact hx
 rw [← ux h];exact hx
theorem xy {b:aV} {g n:Int} (hb:aW b):∀ c,bU b g n=some c→aW c:=n8 hb fun x y hx h=>by
 cases e:e_ x.ax n with
 | none=>rw [e] at h;cases h
 | some p=>rw [e] at h;cases h;exact hx
theorem Lj {x:mA} (hb:aW b):∀ c,ea b g x=some c→aW c:=n8 hb fun x y hx h=>by rw [← ux h];exact hx
theorem XI {c:Int} (hb:aW b):∀ d,gX b p c v=some d→aW d:=fun d h=>by unfold gX at h;rw [← ux h];exact ⟨A1 hb.1,hb.2⟩
theorem D_ {n:Int} (hb:aW b):∀ d,cF b n=some d→aW d:=fun d h=>by
 unfold cF at h
 rw [← ux h]
 split
 refine ⟨hb.1,⟨by show (b.aa.map _).length ≤ _;rw [List.length_map];exact hb.2.1.1,fun y hy=> ?_⟩,hb.2.2⟩
 obtain ⟨x,hx,rfl⟩:=List.mem_map.1 (show y ∈ b.aa.map (oh n) from hy)
 unfold oh
 split <;> exact hb.2.1.2 x hx
 exact hb
end
end Go.Proofs.YtdliggkohdnipaaGreat.T
