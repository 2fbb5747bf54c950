/-
  Part of the proof, part Y46. Own work.
-/
import Derived.Test.YtmledjfbgjnknaaGreatDoorY45
set_option linter.all false
namespace Go.Proofs.YtmledjfbgjnknaaGreatDoor
open Go Go.Dom
set_option maxRecDepth 100000
set_option maxHeartbeats 16000000
theorem PR_sl_cells {rd:Rd} {l l':List PV} {v:Value} (hlen:l.length=l'.length) (hc:l.flatMap PV.cells=l'.flatMap PV.cells) {z:Nat} (hz': ∀x∈l',x.cells.length=z) (h:PR rd (.sl l) v):PR rd (.sl l') v:=by
 cases h with
 |sl0=>
  obtain rfl:l'=[]:=List.length_eq_zero_iff.1 hlen.symm;exact .sl0
 |sle a cap=>
  obtain rfl:l'=[]:=List.length_eq_zero_iff.1 hlen.symm;exact .sle a cap
 |sl _ z vs bk of cap hcap hz h1 hl hr h=>
  rw[hc]at h1 hl h;rw[hlen]at hcap⊢;exact .sl l' _ vs bk of cap hcap hz' h1 hl hr h
theorem EvP_res {P:Program} [Tabs P] {f:FuncId} {args:List PV} {r r':PV} (h:EvP P f args r) (hr: ∀rd v,PR rd r v→PR rd r' v):EvP P f args r':=by
 obtain⟨g,hg,hc⟩:=h;refine⟨g,hg,fun w rd vs h1 h2 h3=>(hc w rd vs h1 h2 h3).mono ?_⟩
 rintro e w' ⟨v,rfl,hb,hp⟩;exact⟨v,rfl,hb,hr _ _ hp⟩
theorem PR_stm {rd:Rd} {a c:PV} {l:List Bytes} {v:Value} (h:PR rd (.agg [a, .sl (l.map .s),c]) v):PR rd (.agg [a, .sl (l.map vpv),c]) v:=by
 cases h with
 |agg _ vs h1 hl h=>
  refine .agg _ vs (fun x hx=> ?_) hl (fun k x w hx hw=> ?_)
  ·simp only[List.mem_cons,List.not_mem_nil,or_false]at hx;rcases hx with rfl|rfl|rfl
   ·exact h1 _ (by simp)
   ·rfl
   ·exact h1 _ (by simp)
  ·match k,hx with
   |0,hx=>exact h 0 x w hx hw
   |1,hx=>
    have hx:x= .sl (l.map vpv):=by simpa using hx.symm
    subst hx;exact PR_sl_cells (by simp) (by rw[List.flatMap_map,List.flatMap_map];rfl) (z:=1) (fun x hx=>by obtain⟨b,-,rfl⟩:=List.mem_map.1 hx;rfl) (h 1 _ w rfl hw)
   |2,hx=>exact h 2 x w hx hw
   |n+3,hx=>simp at hx
theorem eqRow:RowOK Eqn.pv 3:=⟨fun q=>rfl,fun q y hy=>by obtain⟨g,t,l⟩:=q;simp[Eqn.pv,PV.cells]at hy;rcases hy with rfl|rfl|rfl<;>rfl,fun h=>by omega,fun _ q=>rfl⟩
def keyT (k:Key):List Bytes:=k.z::k.u::k.h::k.r
def keyQ (k:Key) (i:Nat) (b:Bytes):Eqn:=⟨0,b,[⟨k.s,i,false,[1]⟩]⟩
def keyS (k:Key):Stm:=⟨[(k.m,k.o)],List.replicate (keyT k).length k.m,(keyT k).mapIdx (keyQ k)⟩
theorem context_ok (k:Key) (hn:k.name.length≤60):EvP Tryz.prog 23 [k.pv] (.s ([105,115,115,117,101,114,32,107,101,121,32]++k.name)):=by
 unfold Key.pv;refine eW Tryz.call23 Tryz.func23 ?_;repeat' first|simp only[go_sem,seval]|refine sB ?_|(first|apply pX|apply bX)<;>intro hc|refine⟨oD,?_⟩|exact oD|fail
theorem statement_ok (k:Key) (lr:k.r.length≤20):EvP Tryz.prog 24 [k.pv] (keyS k).pv:=by
 have hb:=bases_ok k;have hit:=bases_it k (by omega)
 have hbl:=bases_len k;have hbs:k.bases=bas 2 k.s::bas 0 k.z::bas 1 k.u::bas 1 k.h::k.r.map (bas 0):=rfl;have ho:EvP Tryz.prog 60 [E 1] (.agg [.b false, .s [1]]):=Of1Z;refine EvP_res (r:= .agg [.sl ((keyS k).groups.map gpv), .sl ((keyS k).vars.map .s), .sl ((keyS k).eqs.map Eqn.pv)]) ?_ (fun rd v h=>PR_stm h)
 have hkp:k.pv= .agg [.s k.name, .s k.m, .s k.o, .s k.z, .s k.s, .sl (k.r.map .s), .s k.u, .s k.h]:=rfl;rw[hkp]at hb hit⊢;rw[hbs]at hit hbl;refine eW Tryz.call24 Tryz.func24 ?_;repeat' first|simp only[go_sem,seval]|refine cP hb ?_|(refine CW_rng hit rfl hbl ?_)|refine sB ?_|(first|apply pX|apply bX)<;>intro hc|refine⟨oD,?_⟩|exact oD|fail
 refine rg_cons ?_;simp only[bas];repeat' first|simp only[go_sem,seval]|refine sB ?_|(first|apply pX|apply bX)<;>intro hc|refine⟨oD,?_⟩|exact oD|fail
 refine rg_cons ?_;repeat' first|simp only[go_sem,seval]|refine cP ho ?_|refine sB ?_|(first|apply pX|apply bX)<;>intro hc|refine⟨oD,?_⟩|exact oD|fail
 have hTl:(keyT k).length=k.r.length+3:=rfl;have hr0:[AV.v (PV.s k.m)]=rowF PV.s (List.replicate (0+1) k.m):=rfl;have hr1:[AV.v (PV.i .i64 0),AV.v (PV.s k.z),AV.v (PV.sl [PV.agg [PV.s k.s,PV.i .i64 0,PV.b false,PV.s [1]]])]=rowF Eqn.pv ([k.z].mapIdx (keyQ k)):=rfl;rw[hr0,hr1];clear hr0 hr1 hb hit hbl hbs;refine rg_run (α:=Nat×List Bytes) (fun p=>⟨[(1, .p 1000 0 0),(2, .p 1001 0 0),(3, .p 1006 0 0)],[(1000,⟨0,[.v (.s k.name), .v (.s k.m), .v (.s k.o), .v (.s k.z), .v (.s k.s), .v (.sl (k.r.map .s)), .v (.s k.u), .v (.s k.h)],false,none⟩),(1001,⟨0,[.sn, .sn, .sn],false,some 74⟩),(1006,⟨0,[.fs [.agg [.s k.m, .s k.o]], .rs 1034 p.1 0 (1+p.1) 1, .rs 1044 p.1 0 (1+p.1) 3],false,some 74⟩),(1034,⟨p.1,rowF PV.s (List.replicate (p.1+1) k.m),true,some 138⟩),(1044,⟨p.1,rowF Eqn.pv (p.2.mapIdx (keyQ k)),true,some 141⟩)],1047⟩) (fun ys p=>p.2.length=p.1+1∧ ∃post:List (Int×Bytes),ys=post.map (fun q=>bas q.1 q.2)∧(∀q∈post,q.1≠2)∧keyT k=p.2++post.map (·.2)) (0,[k.z]) (fun _=>Nat.le_of_ble_eq_true rfl) ⟨rfl,(1,k.u)::(1,k.h)::k.r.map (fun b=>(0,b)),?_,?_,?_⟩ ?_ ?_ ?_
 ·simp[bas]
 ·intro q hq;simp only[List.mem_cons,List.mem_map]at hq;rcases hq with rfl|rfl|⟨b,-,rfl⟩<;>simp
 ·simp[keyT,Function.comp_def]
 ·(refine AS.Le.of (by first|decide|omega) ?_ ?_<;>simp[LeT,LeH,tget,hget,AV.bd,AV.bd.bdL,u8,bd_cellsOf,bcells_bd,icells_bd])
  exact⟨fun c hc=>bd_row hc,fun c hc=>bd_row hc⟩
 ·rintro⟨j,pre⟩ ⟨hl,post,hys,hq,hT⟩;obtain rfl:post=[]:=by simpa using hys.symm
  have hT:keyT k=pre:=by simpa using hT
  have hl:pre.length=j+1:=hl;have hlen:(keyT k).length=j+1:=by rw[hT];exact hl
  have e1:(keyS k).vars.map PV.s=(List.replicate (j+1) k.m).map .s:=by simp only[keyS];rw[hlen]
  have e2:(keyS k).eqs.map Eqn.pv=(pre.mapIdx (keyQ k)).map Eqn.pv:=by simp only[keyS];rw[hT]
  have e3:(keyS k).groups.map gpv=[.agg [.s k.m, .s k.o]]:=rfl;rw[e1,e2,e3];have lA:(List.replicate (j+1) k.m).length=1+j:=by simp;omega
  have lB:(pre.mapIdx (keyQ k)).length=1+j:=by simp[hl];omega
  obtain⟨A,hA⟩: ∃A,A=List.replicate (j+1) k.m:=⟨_,rfl⟩;obtain⟨B,hB⟩: ∃B,B=pre.mapIdx (keyQ k):=⟨_,rfl⟩;simp only[←hA,←hB]at lA lB⊢;have q0:(rowF PV.s A).length=1+j:=by rw[rowF_len RowOK.s,lA,Nat.mul_one]
  have q1:List.take (1+j) (rowF PV.s A)=rowF PV.s A:=List.take_of_length_le (by omega)
  have q2:=rowF_all RowOK.s A;have q3:chunk 1 (1+j) (A.flatMap fun x=>(PV.s x).cells)=A.map .s:=by rw[←lA];exact rowF_chunk RowOK.s A
  have p0:(rowF Eqn.pv B).length=(1+j)*3:=by rw[rowF_len eqRow,lB]
  have p1:List.take ((1+j)*3) (rowF Eqn.pv B)=rowF Eqn.pv B:=List.take_of_length_le (by omega)
  have p2:=rowF_all eqRow B;have p3:chunk 3 (1+j) (B.flatMap fun x=>(Eqn.pv x).cells)=B.map Eqn.pv:=by rw[←lB];exact rowF_chunk eqRow B
  clear hA hB e1 e2 e3;repeat' first|simp only[go_sem,seval,q0,q1,q2,q3,p0,p1,p2,p3,rowF_mapO]|refine sB ?_|(first|apply pX|apply bX)<;>intro hc|refine⟨oD,?_⟩|exact oD|fail
  have q3':chunk 1 (1+j) (A.flatMap fun x=>[PV.s x])=A.map .s:=q3
  all_goals rw[q3']
 ·rintro y ys ⟨j,pre⟩ ⟨hl,post,hys,hq,hT⟩ R hR;have hl:pre.length=j+1:=hl;obtain⟨q,post,rfl⟩: ∃q r,post=q::r:=by cases post with
   |nil=>simp at hys
   |cons a b=>exact⟨a,b,rfl⟩
  rw[List.map_cons]at hys;injection hys with hy hys
  obtain⟨n,b⟩:=q;have hn:n≠2:=hq (n,b) (by simp)
  have hlen:(keyT k).length=j+1+(post.length+1):=by rw[hT];simp[hl]
  have hgo:=hR (j+1,pre++[b]) ⟨by simp[hl],post,hys,fun q hq'=>hq q (by simp[hq']),by rw[hT];simp⟩
  have hmi:(pre++[b]).mapIdx (keyQ k)=pre.mapIdx (keyQ k)++[keyQ k (j+1) b]:=by rw[List.mapIdx_append];simp[hl]
  simp only at hgo;rw[hmi,rowF_snoc,List.replicate_succ',rowF_snoc]at hgo;have hj:j≤30:=by rw[hTl]at hlen;omega
  subst hy;have lA:(List.replicate (j+1) k.m).length=1+j:=by simp;omega
  have lB:(pre.mapIdx (keyQ k)).length=1+j:=by simp[hl];omega
  obtain⟨A,hA⟩: ∃A,A=List.replicate (j+1) k.m:=⟨_,rfl⟩;obtain⟨B,hB⟩: ∃B,B=pre.mapIdx (keyQ k):=⟨_,rfl⟩;simp only[←hA,←hB]at lA lB hgo⊢;have q0:(rowF PV.s A).length=1+j:=by rw[rowF_len RowOK.s,lA,Nat.mul_one]
  have q1:List.take (1+j) (rowF PV.s A)=rowF PV.s A:=List.take_of_length_le (by omega)
  have p0:(rowF Eqn.pv B).length=(1+j)*3:=by rw[rowF_len eqRow,lB]
  have p1:List.take ((1+j)*3) (rowF Eqn.pv B)=rowF Eqn.pv B:=List.take_of_length_le (by omega)
  have hn':(n==2)=false:=by simpa using hn
  have e5:(Eqn.pv (keyQ k (j+1) b)).cells.map AV.v=[.v (.i .i64 0), .v (.s b), .v (.sl [.agg [.s k.s, .i .i64 ((j+1:Nat):Int), .b false, .s [1]]])]:=rfl;simp only[e5]at hgo;clear hR hA hB e5 hT hq hys hmi;repeat' first|simp only[go_sem,seval,bas,q0,q1,p0,p1,hn']|refine cP ho ?_|refine sB ?_|(first|apply pX|apply bX)<;>intro hc|refine⟨oD,?_⟩|exact oD|fail
  refine hgo _ ?_
  (refine AS.Le.of (by first|decide|omega) ?_ ?_<;>simp[LeT,LeH,tget,hget,AV.bd,AV.bd.bdL,u8,bd_cellsOf,bcells_bd,icells_bd])
  all_goals first|omega|exact⟨by omega,rfl,fun c hc=>by rcases hc with hc|⟨a,ha,rfl⟩;exact bd_row hc;rfl,by omega,fun c hc=>by rcases hc with hc|rfl|rfl|rfl<;>first|exact bd_row hc|rfl⟩
theorem pCheck_ok (p:Par) (hs:p.short):EvP Tryz.prog 32 [p.pv] (E (parE p)):=by
 by_cases h:p.nums.all validN=true
 ·exact parGood p h hs
 ·have h:p.nums.all validN=false:=by simpa using h
  have e:parE p=3:=by unfold parE;rw[h];rfl
  rw[e];exact parBad p h
theorem ruOK_of {p:Par} (hs:p.short) (h:parE p=0):RuOK p.c p.sl:=by
 unfold parE at h
 split at h
 ·rename_i hv
  split at h
  ·exact absurd h (by decide)
  ·split at h
   ·exact absurd h (by decide)
   ·rename_i ht;have hn: ∀x∈p.nums,validN x=true:=List.all_eq_true.1 hv;have ht': ∀x∈p.tens,¬num x<2:=fun x hx g=>ht (List.any_eq_true.2 ⟨x,hx,by simpa using g⟩)
    have c1:p.c∈p.nums:=by simp[Par.nums]
    have c2:p.sl∈p.nums:=by simp[Par.nums]
    have d1:=ht' p.c (by simp[Par.tens])
    have d2:=ht' p.sl (by simp[Par.tens])
    exact⟨hn _ c1,hn _ c2,hs _ c1,hs _ c2,by omega,by omega⟩
 ·exact absurd h (by decide)
structure KeyF (k:Key):Prop where
 o:k.o=[]
 gd:goodB k.m []=true
 s:rHas k.m [] k.s=true
 t: ∀x∈keyT k,rHas k.m [] x=true
 r:k.r.length≤18
theorem keyF_of {pe:Int} {k:Key} (h:keyE pe k=0):pe=0∧KeyF k:=by
 unfold keyE at h
 split at h
 ·rename_i g;exact absurd h g
 ·rename_i g0
  split at h
  ·exact absurd h (by decide)
  ·split at h
   ·exact absurd h (by decide)
   ·split at h
    ·exact absurd h (by decide)
    ·split at h
     ·exact absurd h (by decide)
     ·rename_i g1
      split at h
      ·exact absurd h (by decide)
      ·rename_i g2
       split at h
       ·exact absurd h (by decide)
       ·rename_i g3;simp only[Bool.or_eq_true,Bool.not_eq_true',beq_eq_false_iff_ne,ne_eq,decide_eq_true_eq,not_or,Decidable.not_not]at g1;have hb: ∀y∈k.bases,kBad k.m y=false:=fun y hy=>by
         have:=g3;simp only[Bool.not_eq_true]at this;exact List.any_eq_false.1 this y hy|>fun h=>by simpa using h
        have hh: ∀n b,bas n b∈k.bases→rHas k.m [] b=true:=fun n b hm=>by
         have:=hb _ hm;simp only[kBad,Bool.or_eq_false_iff,Bool.not_eq_false']at this;exact this.1
        refine⟨Decidable.not_not.1 g0,g1.1,pwE0.1 g1.2,hh 2 _ (by simp[Key.bases]),fun x hx=> ?_,by omega⟩
        simp only[keyT,List.mem_cons]at hx;rcases hx with rfl|rfl|rfl|hx
        ·exact hh 0 _ (by simp[Key.bases])
        ·exact hh 1 _ (by simp[Key.bases])
        ·exact hh 1 _ (by simp[Key.bases])
        ·exact hh 0 x (by unfold Key.bases;simp only[List.mem_cons,List.mem_map];exact .inr (.inr (.inr (.inr ⟨x,hx,rfl⟩))))
theorem keyQ_mem {k:Key} {q:Eqn} (h:q∈(keyS k).eqs): ∃i,i<(keyT k).length∧ ∃b∈keyT k,q=keyQ k i b:=by
 simp only[keyS,List.mem_mapIdx]at h;obtain⟨i,hi,rfl⟩:=h;exact⟨i,hi,_,List.getElem_mem hi,rfl⟩
theorem rHas_len {m x:Bytes} (lm:m.length≤8) (h:rHas m [] x=true):x.length≤8:=by
 simp only[rHas,Bool.and_eq_true,decide_eq_true_eq]at h;have hx:=h.1.1.1.2;have hlt:=h.1.2;have hm:=num8 lm;have:x=bts (num x):=by have:=N_of hx;injection this with e;exact e.symm
 rw[this];exact bts_len.2 (by omega)
theorem key_facts {k:Key} (lm:k.m.length≤8) (h:KeyF k):StOK (keyS k)∧OneT (keyS k)∧BdS (keyS k)∧(keyS k).eqs≠[]∧ ∀ch rs,∀x∈fmsg (keyS k) ch rs,x.length≤8∧validN x=true:=by
 have hT:(keyT k).length=k.r.length+3:=rfl;have hr:=h.r;have hg:=h.gd;simp only[goodB,Bool.and_eq_true,decide_eq_true_eq]at hg;have vm:validN k.m=true:=hg.1.1.1;have m8:=hg.2;have hmn:=num8 lm;have m0:k.m≠[]:=by intro e;rw[e]at m8;exact absurd m8 (by decide)
 have hgH: ∀x,rHas k.m [] x=true→gHas k.m k.o x=true:=fun x hx=>by rw[h.o];unfold gHas;rw[if_pos (by simp)];exact hx
 have hgr:(keyS k).groups=[(k.m,k.o)]:=rfl;have hvl:(keyS k).vars.length=k.r.length+3:=by simp[keyS,hT]
 have hel:(keyS k).eqs.length=k.r.length+3:=by simp[keyS,hT]
 refine⟨⟨?_,?_,?_,by rw[hgr];simp,by rw[hvl];omega,by rw[hel];omega⟩,?_,⟨⟨k.m,k.o,rfl,by omega,by rw[h.o];simp⟩,?_,by rw[hvl];omega,?_,by rw[hel];omega,?_⟩,?_,?_⟩
 ·intro q hq;rw[hgr]at hq;obtain rfl:=List.mem_singleton.1 hq;refine⟨?_,lm,by rw[h.o];simp⟩
  rw[h.o,gE_nil];exact pwE0.2 h.gd
 ·intro b hb;obtain rfl:=List.eq_of_mem_replicate hb;exact⟨vm,m0,by omega⟩
 ·intro q hq;obtain⟨i,hi,b,hb,rfl⟩:=keyQ_mem hq;rw[hvl];refine⟨Int.le_refl 0,by rw[hgr];simp[keyQ],hgH _ (h.t b hb),by simp[keyQ],?_⟩
  intro t ht;obtain rfl:=List.mem_singleton.1 ht;refine⟨by simp,by simp only;omega,hgH _ h.s,by simp[izok];decide⟩
 ·intro q hq;obtain⟨i,hi,b,hb,rfl⟩:=keyQ_mem hq;exact⟨_,rfl,by simp⟩
 ·intro e;have:=congrArg List.length e;rw[hvl]at this;simp at this
 ·intro b hb;obtain rfl:=List.eq_of_mem_replicate hb;omega
 ·intro q hq;obtain⟨i,hi,b,hb,rfl⟩:=keyQ_mem hq;have l1:=rHas_len lm (h.t b hb);have l2:=rHas_len lm h.s;refine⟨Int.le_refl 0,by simp[keyQ],by simp only[keyQ];omega,_,rfl,by simp,by simp only;omega,by simp only;omega,by simp⟩
 ·intro e;have:=congrArg List.length e;rw[hel]at this;simp at this
 ·intro ch rs x hx;simp only[fmsg,List.mem_map]at hx;obtain⟨q,hq,rfl⟩:=hx;obtain⟨i,hi,b,hb,rfl⟩:=keyQ_mem hq;have hlt:msgQ (keyS k).groups ch rs (keyQ k i b)<num k.m:=by
   simp only[msgQ,keyQ,List.foldl_cons,List.foldl_nil,msgT];exact Nat.mod_lt _ (by show 0<num k.m;omega)
  exact⟨bts_len.2 (by omega),vN (by omega)⟩
noncomputable def verE (p:Par) (k:Key) (ch:Bytes) (rs:List (Bool×Bytes)) (gs:List Bytes) (ls:List (List (Bool×Bytes))):Int:=
 if keyE (parE p) k≠0 then keyE (parE p) k else vfyE p.c p.sl ([105,115,115,117,101,114,32,107,101,121,32]++k.name) (keyS k) ch rs gs ls
theorem Verify_ok {p:Par} {k:Key} (hp:p.short) (lm:k.m.length≤8) (ln:k.name.length≤60) (lr:k.r.length≤20) {ch:Bytes} {rs:List (Bool×Bytes)} {gs:List Bytes} {ls:List (List (Bool×Bytes))} (h1:rs.length<1000000) (h2:gs.length≤1000) (h3:ls.length≤1000) (h4: ∀l∈ls,l.length<4611686018427387904):
  EvP Tryz.prog 13 [p.pv,k.pv,spv ch rs gs ls] (E (verE p k ch rs gs ls)):=by
 have hck:=keyCheck_ok p k _ (pCheck_ok p hp) lm ln lr;unfold verE
 by_cases h0:keyE (parE p) k=0
 ·rw[if_neg (by simpa using h0)]
  rw[h0]at hck;obtain⟨hpe,hkf⟩:=keyF_of h0;obtain⟨k1,k2,k3,k4,k5⟩:=key_facts lm hkf;have hv:=fVerify_ok (ruOK_of hp hpe) k1 k3 k4 (fun ch rs x hx=>by have:=(k5 ch rs x hx).1;omega) (ctx:=[105,115,115,117,101,114,32,107,101,121,32]++k.name) (by simp;omega) (ch:=ch) (rs:=rs) (gs:=gs) (ls:=ls) h1 h2 h3 h4
  have hst:=statement_ok k lr;have hcx:=context_ok k ln;generalize vfyE p.c p.sl ([105,115,115,117,101,114,32,107,101,121,32]++k.name) (keyS k) ch rs gs ls=e at*;generalize [105,115,115,117,101,114,32,107,101,121,32]++k.name=cx at*;generalize keyS k=S at*;clear k1 k2 k3 k4 k5 hkf h0 hpe h1 h2 h3 h4;obtain⟨sg,sv,se⟩:=S;unfold Par.pv Key.pv Stm.pv at*;unfold spv at*;refine eW Tryz.call13 Tryz.func13 ?_;repeat' first|simp only[go_sem,seval]|refine cP hck ?_|refine cP hst ?_|refine cP hcx ?_|refine cP hv ?_|refine sB ?_|(first|apply pX|apply bX)<;>intro hc|refine⟨oD,?_⟩|exact oD|fail
  all_goals fail "x"
 ·rw[if_pos h0];have hb:(keyE (parE p) k==0)=false:=by simpa using h0
  generalize keyE (parE p) k=e at*;unfold Par.pv Key.pv at*;unfold spv;refine eW Tryz.call13 Tryz.func13 ?_;repeat' first|simp only[go_sem,seval,hb]|refine cP hck ?_|refine sB ?_|(first|apply pX|apply bX)<;>intro hc|refine⟨oD,?_⟩|exact oD|fail
end Go.Proofs.YtmledjfbgjnknaaGreatDoor
namespace Go.Proofs.YtmledjfbgjnknaaGreatDoor
open Go Go.Dom Go.Num
set_option maxRecDepth 100000
set_option maxHeartbeats 16000000
def lz (b:Bytes):PV:=ipv (false,b)
theorem lzRow:RowOK lz 2:=⟨fun _=>rfl,fun x y hy=>by simp[lz,ipv,PV.cells]at hy;rcases hy with rfl|rfl<;>rfl,fun h=>by omega,fun _ x=>rfl⟩
theorem lz_snoc (l:List Bytes) (x:Bytes):rowF lz (l++[x])=rowF lz l++[.v (.b false), .v (.s x)]:=by rw[rowF_snoc];rfl
def logZ (logs:List Bytes):List Int:=logs.map fun x=>(num x:Int)
theorem logZ_lz {logs:List Bytes} (h:logs.all validN=true):(logZ logs).map Zp=logs.map lz:=by
 unfold logZ;rw[List.map_map];refine List.map_congr_left fun x hx=> ?_
 show ipv (ipz (num x:Int))= _;rw[ipz_nat (List.all_eq_true.1 h x hx)];rfl
def kctx (k:Key):Bytes:=[105,115,115,117,101,114,32,107,101,121,32]++k.name
noncomputable def prvK (p:Par) (k:Key) (logs vs:List Bytes) (sd:Bytes) (a:Int):Except Int (Bytes×List Int×Nat):=
 if keyE (parE p) k≠0 then .error (keyE (parE p) k)else if !(logs.all validN)then .error 3 else prvG p.c p.sl (kctx k) (keyS k) (logZ logs) vs sd a
theorem oneS_key (k:Key):OneS (keyS k):=⟨by simp[keyS],fun i hi=>by
 have hi:i<(keyT k).length:=by simpa[keyS]using hi
 refine⟨k.s,?_⟩;simp[keyS,List.getD_eq_getElem?_getD,hi,keyQ,tm1]⟩
theorem imgL_key {k:Key} (lm:k.m.length≤8) (h:KeyF k) (w:List (Bool×Bytes)): ∀x∈imgL (keyS k) w,x.length≤8∧validN x=true:=by
 intro x hx;have hg:=h.gd;simp only[goodB,Bool.and_eq_true,decide_eq_true_eq]at hg;have m8:=hg.2;have hmn:=num8 lm;simp only[imgL,List.mem_mapIdx]at hx;obtain⟨i,hi,rfl⟩:=hx;have hi:i<(keyT k).length:=by simpa[keyS]using hi
 have hlt:imgQ (keyS k).groups w i ((keyS k).eqs[i]'(by simpa[keyS]using hi))<num k.m:=by
  simp only[imgQ,keyS,List.getElem_mapIdx,keyQ];exact Nat.mod_lt _ (by show 0<num k.m;omega)
 exact⟨bts_len.2 (by omega),vN (by omega)⟩
theorem kProve_ok {p:Par} {k:Key} (hp:p.short) (lm:k.m.length≤8) (ln:k.name.length≤60) (lr:k.r.length≤20) {logs vs:List Bytes} {sd:Bytes} {a:Int} (hlog:logs.length<1000000) (hl:vs.length<1000000) (hsd:sd.length<1000000):
  EvP Tryz.prog 9 [p.pv,k.pv, .sl (logs.map .s),T vs sd a] (prvP vs sd (prvK p k logs vs sd a)):=by
 have hck:=keyCheck_ok p k _ (pCheck_ok p hp) lm ln lr;unfold prvK
 by_cases h0:keyE (parE p) k=0
 ·rw[if_neg (by simpa using h0)]
  rw[h0]at hck;obtain⟨hpe,hkf⟩:=keyF_of h0;obtain⟨k1,k2,k3,k4,k5⟩:=key_facts lm hkf;have hv0:(keyS k).vars≠[]:=k3.v0;have hgr:(keyS k).groups=[(k.m,[])]:=by rw[←hkf.o];rfl
  have hlz:=fun h:logs.all validN=true=>logZ_lz h
  have hpv:=Prove22_ok (ruOK_of hp hpe) k1 hv0 k4 (oneS_key k) k3 hgr (imgL_key lm hkf) (ctx:=kctx k) (by simp[kctx];omega) (w:=logZ logs) (by simp[logZ];omega) (vs:=vs) (sd:=sd) (a:=a) hl hsd
  have hst:=statement_ok k lr;have hcx:=context_ok k ln;rw[←kctx]at hcx;generalize prvG p.c p.sl (kctx k) (keyS k) (logZ logs) vs sd a=RR at*;have hcut:kctx k=[105,115,115,117,101,114,32,107,101,121,32]++k.name:=rfl;generalize kctx k=cx at*;generalize keyS k=S at*;clear k1 k2 k3 k4 k5 hkf h0 hpe hv0 hgr;obtain⟨sg,sv,se⟩:=S;have l1:(logs.map PV.s).length=logs.length:=List.length_map ..;unfold Par.pv Key.pv Stm.pv at*
  by_cases hlg:logs=[]
  ·subst hlg;simp only[List.all_nil,Bool.not_true,Bool.false_eq_true,if_false]
   cases RR with
   |ok q=>
    obtain⟨q1,q2,q3⟩:=q;simp only[prvP]at hpv⊢;refine eW Tryz.call9 Tryz.func9 ?_;repeat' first|simp only[go_sem,seval]|refine cP hck ?_|refine cP hst ?_|refine cP hcx ?_|refine cP hpv ?_|(refine loop_unroll' ?_)|refine sB ?_|(first|apply pX|apply bX)<;>intro hc|refine⟨oD,?_⟩|exact oD|fail
    all_goals rfl
   |error e=>
    simp only[prvP]at hpv⊢;refine eW Tryz.call9 Tryz.func9 ?_;repeat' first|simp only[go_sem,seval]|refine cP hck ?_|refine cP hst ?_|refine cP hcx ?_|refine cP hpv ?_|(refine loop_unroll' ?_)|refine sB ?_|(first|apply pX|apply bX)<;>intro hc|refine⟨oD,?_⟩|exact oD|fail
    all_goals rfl
  have hpos:0<logs.length:=List.length_pos_iff.2 hlg;have hpv:logs.all validN=true→ _:=fun h=>hlz h▸hpv
  have hbad: ∀i,i<logs.length→validN (logs.getD i [])=false→logs.all validN=false:=fun i hi h=>by
   rw[List.all_eq_false];exact⟨_,mem_getD [] hi,by rw[h];exact Bool.false_ne_true⟩
  refine eW Tryz.call9 Tryz.func9 ?_;repeat' first|simp only[go_sem,seval,l1]|refine cP hck ?_|refine sB ?_|(first|apply pX|apply bX)<;>intro hc|refine⟨oD,?_⟩|exact oD|fail
  refine loop_unroll' ?_;have e1:=getD_S hpos;have hvl:=natValid (logs.getD 0 [])
  by_cases hb:validN (logs.getD 0 [])=true
  case neg=>
   rw[hbad 0 hpos (by simpa using hb)]
   rw[show validN (logs.getD 0 [])=false by simpa using hb]at hvl
   simp only[Bool.not_false,if_true];generalize logs.getD 0 []=x0 at*;repeat' first|simp only[go_sem,seval,l1,e1]|refine cP hvl ?_|refine sB ?_|(first|apply pX|apply bX)<;>intro hc|refine⟨oD,?_⟩|exact oD|fail
   all_goals rfl
  have hfr:=From_ok hb;rw[hb]at hvl;have t0:logs.take 1=[logs.getD 0 []]:=take_succ_getD [] hpos;have hb0:=hb;generalize logs.getD 0 []=x0 at*;repeat' first|simp only[go_sem,seval,l1,e1]|refine cP hvl ?_|refine cP hfr ?_|refine sB ?_|(first|apply pX|apply bX)<;>intro hc|refine⟨oD,?_⟩|exact oD|fail
  clear e1 hvl hfr;refine loop_run (α:=Nat⊕Unit) (fun j=>match j with| .inl j=>logs.length-j| .inr _=>0) (fun j=>match j with| .inl j=>⟨[(2, .v (.sl (logs.map .s))),(4, .p 1000 0 0),(5, .p 1001 0 0),(7, .p 1002 0 0),(8, .p 1003 0 0),(9, .p 1004 0 0),(23, .v (.sl (logs.map .s))),(24,E' logs.length),(25,E' (j+1)),(12, .rs 1027 j 0 (j+1) 2)],[(1000,⟨0,[.v (.s p.c), .v (.s p.sl), .v (.s p.mm), .v (.s p.mo), .v (.s p.mg), .v (.s p.mh), .v (.s p.wm), .v (.s p.wo), .v (.s p.wg), .v (.s p.wh), .v (.s p.se), .v (.s p.at'), .v (.s p.ha), .v (.s p.el), .v (.s p.es), .v (.s p.bl), .v (.s p.ma)],false,none⟩),(1001,⟨0,[.v (.s k.name), .v (.s k.m), .v (.s k.o), .v (.s k.z), .v (.s k.s), .v (.sl (k.r.map .s)), .v (.s k.u), .v (.s k.h)],false,none⟩),(1002,⟨0,[.v (.sl (vs.map .s)), .v (.s sd), .v (.i .i64 a)],false,none⟩),(1003,⟨0,[.v (.s []), .sn, .sn, .sn],false,some 45⟩),(1004,⟨0,[.sn, .v (.s []), .v (.i .i64 0)],false,some 35⟩),(1027,⟨j,rowF lz (logs.take (j+1)),true,some 53⟩)],1031⟩| .inr _=>⟨(12, .v (.sl (logs.map lz)))::[(2, .v (.sl (logs.map .s))),(4, .p 1000 0 0),(5, .p 1001 0 0),(7, .p 1002 0 0),(8, .p 1003 0 0),(9, .p 1004 0 0),(23, .v (.sl (logs.map .s))),(24,E' logs.length),(25,E' (logs.length))],[(1000,⟨0,[.v (.s p.c), .v (.s p.sl), .v (.s p.mm), .v (.s p.mo), .v (.s p.mg), .v (.s p.mh), .v (.s p.wm), .v (.s p.wo), .v (.s p.wg), .v (.s p.wh), .v (.s p.se), .v (.s p.at'), .v (.s p.ha), .v (.s p.el), .v (.s p.es), .v (.s p.bl), .v (.s p.ma)],false,none⟩),(1001,⟨0,[.v (.s k.name), .v (.s k.m), .v (.s k.o), .v (.s k.z), .v (.s k.s), .v (.sl (k.r.map .s)), .v (.s k.u), .v (.s k.h)],false,none⟩),(1002,⟨0,[.v (.sl (vs.map .s)), .v (.s sd), .v (.i .i64 a)],false,none⟩),(1003,⟨0,[.v (.s []), .sn, .sn, .sn],false,some 45⟩),(1004,⟨0,[.sn, .v (.s []), .v (.i .i64 0)],false,some 35⟩)],1031⟩) (fun j=>match j with| .inl j=>j+1<logs.length∧(logs.take (j+1)).all validN=true| .inr _=>logs.all validN=true) (if 1<logs.length then .inl 0 else .inr ()) (fun j=>by cases j<;>exact Nat.le_of_ble_eq_true rfl) ?_ ?_ ?_
  ·by_cases h:1<logs.length
   ·rw[if_pos h];exact⟨h,by rw[t0];simp[hb0]⟩
   ·rw[if_neg h];rw[List.take_of_length_le (by omega)]at t0
    rw[t0];simp[hb0]
  ·by_cases h:1<logs.length
   ·rw[if_pos h];simp only[Nat.zero_add,t0]
    (refine AS.Le.of (by first|decide|omega) ?_ ?_<;>simp[LeT,LeH,tget,hget,AV.bd,AV.bd.bdL,u8,bd_cellsOf,bcells_bd,icells_bd])
    all_goals exact⟨rfl,fun c hc=>bd_row hc⟩
   ·rw[if_neg h];have h1:logs.length=1:=by omega
    rw[List.take_of_length_le (by omega)]at t0
    refine leZ lzRow (m:=1027) (ver:=0) (len:=1) (gr:=true) (el:=some 53) (l:=logs) rfl (by rw[t0];rfl) h1.symm ?_ ?_
    ·simp[LeT,tget,AV.bd,h1]
    ·simp[LeH,hget,AV.bd,h1]
  ·clear t0 hb hb0;rintro(j|u) hok R hR
   ·obtain⟨hj,hall⟩:=hok;have hlm:(logs.take (j+1)).length=j+1:=by rw[List.length_take];omega
    have q1:=rowF_len lzRow (logs.take (j+1));have q2:=rowF_take lzRow (logs.take (j+1));rw[hlm]at q1 q2;have e1:=getD_S hj;have hvl:=natValid (logs.getD (j+1) []);have ts:=take_succ_getD ([]:Bytes) hj
    by_cases hb:validN (logs.getD (j+1) [])=true
    ·have hfr:=From_ok hb;rw[hb]at hvl;have hall2:(logs.take (j+1+1)).all validN=true:=by rw[ts,List.all_append,hall,List.all_cons,hb];rfl
     have hrs:rowF lz (logs.take (j+1+1))=rowF lz (logs.take (j+1))++[.v (.b false), .v (.s (logs.getD (j+1) []))]:=by rw[ts,lz_snoc]
     by_cases hlt:j+1+1<logs.length
     ·have hgo:=hR (.inl (j+1)) ⟨hlt,hall2⟩ (by simp only;omega)
      simp only[hrs]at hgo;generalize logs.getD (j+1) []=x1 at*;clear hR ts;repeat' first|simp only[go_sem,seval,l1,e1,q1,q2]|refine cP hvl ?_|refine cP hfr ?_|refine sB ?_|(first|apply pX|apply bX)<;>intro hc|refine⟨oD,?_⟩|exact oD|fail
      refine hgo _ ?_
      (refine AS.Le.of (by first|decide|omega) ?_ ?_<;>simp[LeT,LeH,tget,hget,AV.bd,AV.bd.bdL,u8,bd_cellsOf,bcells_bd,icells_bd])
      all_goals exact fun c hc=>by rcases hc with hc|rfl|rfl<;>first|exact bd_row hc|rfl
     ·have hT:logs.take (j+1+1)=logs:=List.take_of_length_le (by omega)
      rw[hT]at hall2 hrs;have hgo:=hR (.inr ()) hall2 (by simp only;omega)
      have h1:logs.length=j+1+1:=by omega
      generalize logs.getD (j+1) []=x1 at*;clear hR ts;repeat' first|simp only[go_sem,seval,l1,e1,q1,q2]|refine cP hvl ?_|refine cP hfr ?_|refine sB ?_|(first|apply pX|apply bX)<;>intro hc|refine⟨oD,?_⟩|exact oD|fail
      refine hgo _ ?_;refine leZ lzRow (m:=1027) (ver:=j+1) (len:=j+1+1) (gr:=true) (el:=some 53) (l:=logs) rfl (by simp[hget,hrs]) h1.symm ?_ ?_
      ·simp[LeT,tget,AV.bd,h1]
      ·simp[LeH,hget,AV.bd,h1]
    ·rw[hbad (j+1) hj (by simpa using hb)]
     rw[show validN (logs.getD (j+1) [])=false by simpa using hb]at hvl
     simp only[Bool.not_false,if_true];generalize logs.getD (j+1) []=x1 at*;clear hR;repeat' first|simp only[go_sem,seval,l1,e1]|refine cP hvl ?_|refine sB ?_|(first|apply pX|apply bX)<;>intro hc|refine⟨oD,?_⟩|exact oD|fail
     all_goals rfl
   ·have hall:logs.all validN=true:=hok;have hpv:=hpv hall;rw[hall];simp only[Bool.not_true,Bool.false_eq_true,if_false];clear hR
    cases RR with
    |ok q=>
     obtain⟨q1,q2,q3⟩:=q;simp only[prvP]at hpv⊢;repeat' first|simp only[go_sem,seval,l1]|refine cP hck ?_|refine cP hst ?_|refine cP hcx ?_|refine cP hpv ?_|refine sB ?_|(first|apply pX|apply bX)<;>intro hc|refine⟨oD,?_⟩|exact oD|fail
     all_goals rfl
    |error e=>
     simp only[prvP]at hpv⊢;repeat' first|simp only[go_sem,seval,l1]|refine cP hck ?_|refine cP hst ?_|refine cP hcx ?_|refine cP hpv ?_|refine sB ?_|(first|apply pX|apply bX)<;>intro hc|refine⟨oD,?_⟩|exact oD|fail
     all_goals rfl
 ·rw[if_pos h0];have hb:(keyE (parE p) k==0)=false:=by simpa using h0
  have hb2:(keyE (parE p) k !=0)=true:=by simpa using h0
  generalize keyE (parE p) k=e at*;unfold Par.pv Key.pv at*;simp only[prvP];refine eW Tryz.call9 Tryz.func9 ?_;repeat' first|simp only[go_sem,seval,hb,hb2]|refine cP hck ?_|refine sB ?_|(first|apply pX|apply bX)<;>intro hc|refine⟨oD,?_⟩|exact oD|fail
  all_goals rfl
end Go.Proofs.YtmledjfbgjnknaaGreatDoor
namespace Go.Proofs.YtmledjfbgjnknaaGreatDoor
open Go Go.Dom Go.Num
set_option maxRecDepth 100000
theorem powZ_ipz (m x:Nat) (z:Int):powZ m x (ipz z).1 (num (ipz z).2)=powI m x z:=by
 simp only[ipz,num_zb,zs];rfl
theorem powZ_neg (m x z:Nat):powZ m x (!(bts z==[])) (num (bts z))=powI m x (-(z:Int)):=by
 have e:(!(bts z==([]:Bytes)))=decide (-(z:Int)<0):=by
  rw[Bool.eq_iff_iff];simp[bts_nil];omega
 rw[e,num_bts];unfold powI;congr 1;omega
theorem conv_law {c sl ctx:Bytes} (hr:RuOK c sl) {k:Key} (hk:KeyF k) (lm:k.m.length≤8) {wn:List Nat} (hw:wn.length=(keyT k).length) (hold: ∀i,i<(keyT k).length→num k.s^wn.getD i 0%num k.m=num ((keyT k).getD i []))
  {vs:List Bytes} {sd:Bytes} {n i j:Nat} {ch:Bytes} {rs:List Int} (h:tryG c sl ctx (keyS k) (wn.map fun n:Nat=>(n:Int)) vs sd n i= .ok (ch,rs,j)):vfyE c sl ctx (keyS k) ch (rs.map ipz) [] []=0:=by
 obtain⟨ms,hml,rfl,rfl,hin⟩:=tryG_ok h;have hT:(keyT k).length=k.r.length+3:=rfl;have hvl:(keyS k).vars.length=(keyT k).length:=by simp[keyS]
 have hgd:=hk.gd;simp only[goodB,Bool.and_eq_true,decide_eq_true_eq]at hgd;have m8:=hgd.2;have hm0:0<num k.m:=by omega
 have hs:=hk.s;simp only[rHas,Bool.and_eq_true,decide_eq_true_eq]at hs;have hu:Unit' (num k.m) (num k.s):=unit_of_gcd hm0 hs.2;have hz:=trChal_lt (fsS ctx (keyS k) (imgL (keyS k) (ms.map ipz))) (c:=c) hr.c2;have hfm: ∀z,z=trChal (fsS ctx (keyS k) (imgL (keyS k) (ms.map ipz))) c→fmsg (keyS k) (bts z) ((respZ ms (wn.map fun n:Nat=>(n:Int)) z).map ipz)=imgL (keyS k) (ms.map ipz):=by
  intro z _;unfold fmsg imgL;apply List.ext_getElem
  ·simp
  ·intro q h1 h2;have hq:q<(keyT k).length:=by simpa[keyS]using h1
   have hq1:q<ms.length:=by omega
   have hq2:q<(wn.map fun n:Nat=>(n:Int)).length:=by rw[List.length_map];omega
   have hrl:q<(respZ ms (wn.map fun n:Nat=>(n:Int)) z).length:=by simp[respZ];omega
   have he:(keyS k).eqs[q]'(by simpa[keyS]using hq)=keyQ k q ((keyT k)[q]):=by simp[keyS]
   rw[List.getElem_map,List.getElem_mapIdx,he];congr 1;have ho:=hold q hq;rw[show(keyT k).getD q []=(keyT k)[q] by simp[List.getD_eq_getElem?_getD,hq]]at ho
   have hg:((keyS k).groups.getD (Int.toNat 0) d0G).1=k.m:=rfl;simp only[msgQ,imgQ,keyQ,List.foldl_cons,List.foldl_nil,msgT,List.headD_cons,Int.toNat_natCast];rw[hg,getD_ipz _ _ hrl,getD_ipz _ _ hq1,powZ_ipz,powZ_ipz,powZ_neg,show num ([1]:Bytes)=1 from rfl,powZ_one hs.1.2,←ho,getD_resp hq1 hq2]
   have hwq:(wn.map fun n:Nat=>(n:Int)).getD q 0=((wn.getD q 0:Nat):Int):=by
    have:q<wn.length:=by omega
    simp[List.getD_eq_getElem?_getD,this]
   rw[hwq,show((z:Int)*((wn.getD q 0:Nat):Int))=((z*wn.getD q 0:Nat):Int)from(Int.natCast_mul _ _).symm]
   exact respond_law hu hm0 _ _ _
 have hfm:=hfm _ rfl;obtain⟨z,hzd⟩: ∃z,z=trChal (fsS ctx (keyS k) (imgL (keyS k) (ms.map ipz))) c:=⟨_,rfl⟩;rw[←hzd]at hfm hz hin⊢;have hlr:(respZ ms (wn.map fun n:Nat=>(n:Int)) z).length=(keyS k).vars.length:=by simp[respZ];omega
 generalize respZ ms (wn.map fun n:Nat=>(n:Int)) z=rs at*
 have hlim: ∀i,i<(keyS k).vars.length→(rs.getD i 0).natAbs<limR c sl ((keyS k).vars.getD i []):=by
  intro i hi;unfold inR at hin;exact of_decide_eq_true (List.all_eq_true.1 hin i (List.mem_range.2 hi))
 have hLim: ∀i,i<(keyS k).vars.length→limR c sl ((keyS k).vars.getD i [])<LIM:=by
  intro i hi;refine limR_lt hr ?_;have:(keyS k).vars.getD i []∈(keyS k).vars:=mem_getD [] hi;rw[List.eq_of_mem_replicate this];omega
 have a1:validN (bts z)=true:=valid_bts (Nat.lt_trans hz (num_of hr.vc));have a2:(rs.map ipz).all izok=true:=by
  rw[List.all_eq_true];intro x hx;obtain⟨r,hr',rfl⟩:=List.mem_map.1 hx;obtain⟨i,hi,rfl⟩:=List.getElem_of_mem hr';have h1:=hlim i (by omega)
  rw[List.getD_eq_getElem?_getD,List.getElem?_eq_getElem hi]at h1;exact zval (Nat.lt_trans h1 (hLim i (by omega)))
 have f1:formE c (keyS k).vars.length (bts z) (rs.map ipz) [] []=0:=by
  unfold formE;rw[a1,a2,if_neg (by simp),if_neg (by rw[List.length_map];simp[hlr]),if_neg (by rw[num_bts];omega)]
 have f2:firE c sl (keyS k).vars (bts z) (rs.map ipz)=0:=by
  have f3:okR c sl (keyS k).vars (rs.map ipz)=true:=okR_good fun i hi=>by
   rw[getD_ipz _ _ (by omega)]
   show num (zb (rs.getD i 0))< _;rw[num_zb];exact hlim i hi
  unfold firE;rw[a1,a2,f3,if_neg (by simp),if_neg (by rw[num_bts];omega),if_neg (by rw[List.length_map];simp[hlr]),if_neg (by simp)]
 unfold vfyE;rw[if_neg (by rw[f1];simp),if_neg (by rw[f2];simp),hfm,←hzd,if_pos rfl]
end Go.Proofs.YtmledjfbgjnknaaGreatDoor
