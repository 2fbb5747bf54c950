/- Part of the proof. -/
import Derived.Laws.Build
import Derived.Test.YthlapgdhjcddkaaGreatDoorUF6
set_option linter.all false
set_option maxHeartbeats 1000000
namespace Go.Dom
open Go.RowKit
section
variable {P:Program} {C:Cx} {hf:Nat->Option aI} {wr:Nat->Prop} {base nm:Nat} {w:World} {tf:Nat->AV}
variable {e t ty:TypeId} {v x:Value}
theorem Xi (h:HR C hf wr w) {u:TypeId} (ht:P.underlying t=some (.slice e)) {z:Nat} (hz:dJ P e=some z)
  {vy:AV} {y:Value} (hy:AR C vy y) {ys:List AV} {k:Nat} {p:Prop} {r:List Nat} (hs:rp hf z vy=some (ys,k,p,r)) (hp:p) (h1: ∀y∈ys,y.one=true)
  {n ver o len:Nat} (hx:AR C (.rs n ver o len z) x) {ob:aI} (hn:hf n=some ob) (hver:ob.ver=ver) (hlen':o+len*z<=ob.cells.length):
  eF P C hf wr base nm (vS (Builtin.copy_ #[t,u] ty #[x,y])) w (.v (.i .i64 (min k len:Nat))) [(n,some ⟨ob.ver,ob.cells.take o++ys.take (min k len*z)++ob.cells.drop (o+min k len*z),ob.gr,ob.el⟩)]:=by
 obtain⟨news,hlen,hfc,hry,hyl⟩:=tQ (P:=P) h hy hs hp;have hnews:=AD hry h1;have hcur:=(h.live n ob hn).2;have hm:=OQ hx;obtain⟨cs,el,g1,g2,g3,g4,g5⟩:=h.obj n ob hn hm;subst hver
 cases hx with
 |rs _ _ _ _ _ b o' cap _ _ hcap ho hx=>
  obtain⟨-,hx2⟩:=hx _ hcur;obtain⟨rfl,hsz⟩:=hx2 rfl;have hm1:min k len<=k:=Nat.min_le_left _ _;have hm2:min k len<=len:=Nat.min_le_right _ _;generalize hmm:min k len=m at*;have hfm:=hfc w m rfl hm1;have hmz:m*z<=news.length:=by rw[<-hry.1,hyl];exact dQ _ hm1
  have hml:(news.take (m*z)).length=m*z:=by simp;omega
  have hfit:o+m*z<=ob.cells.length:=by have:=dQ z hm2;omega
  let cs':Array Value:=(cs.toList.take o++news.take (m*z)++cs.toList.drop (o+(news.take (m*z)).length)).toArray
  have hsz':cs'.size=cs.size:=by simp[cs'];omega
  obtain⟨k1,k2⟩:=setRow_heap (cs':=cs') g1;have hst:(storeCells ⟨C.mu n,o',none⟩ (news.take (m*z))).run P w= .ok () (w.setRow (C.mu n) cs'):=by
   rcases ho with ho|ho
   ·have hm0:m=0:=by omega
    have e:cs'=cs:=by apply fF;simp[cs',hm0]
    rw[e,setRow_self w _ cs el (0,0) g1];subst hm0;simp[storeCells]
   ·subst ho;have:=run_storeCells_at P (C.mu n) o' el (news.take (m*z)) 0 cs w g1 (by rw[hml];omega) (fun v hv=>hnews v (kG hv))
    simp only[Nat.add_zero]at this;exact this
  have hmin:Nat.min k len=m:=hmm;have hrun:(Builtin.copy_ #[t,u] ty #[.slice (some ⟨C.mu n,o',none⟩) len cap,y]).run P w= .ok (.int .i64 m) (w.setRow (C.mu n) cs'):=by
   simp[Builtin.copy_,run_underlying ht,hlen,hmin,dS hz,hfm,hst,goInt]
  refine⟨.int .i64 m,w.setRow (C.mu n) cs',C.bump nm n ob.ver, .inl (by simp only[vS,bI,hrun,Result.andThen,Sem.run_pure]), .v (.i _ _),?_,Cx.ot nm hcur (aA _),fun _=>ja,Wf.setRow _ (h.wr n ob hn),fun _ _=>rfl, .one (.inr (.inl ⟨_,hn,rfl⟩)) fun _ _=>rfl⟩
  rw[iD];have hyt:(ys.take (m*z)).length=m*z:=by rw[bQ,hyl];exact oS (dQ _ hm1)
  refine h.write nm hn (aA _) _ ob.gr cs' el ob.el (.inr rfl) ⟨_,g1⟩ k1 (by rw[hsz',g2]) ?_ ?_ (fun b _ hb=>k2 b hb) ?_
  ·rw[hsz'];simp only[bR,bQ,mc,hyl];have:=dQ z hm1;omega
  ·intro hg;have:=g4 hg;rw[hsz'];simp only[bR,bQ,mc,hyl];have:=dQ z hm1;omega
  ·intro j x v hx hv;have hv':(cs.toList.take o++news.take (m*z)++cs.toList.drop (o+(news.take (m*z)).length))[j]?=some v:=by simpa[cs']using hv
   have hsp:=tO (C:=C) (cells:=ob.cells) (cs:=cs.toList) (fun k x v hx hv=>g5 k x v hx (by simpa using hv)) (hry.take (m*z)) (o:=o) (by omega) (by simpa using g3) (by rw[hyt];simp;omega)
   exact hsp j x v (by rw[hyt];exact hx) hv'
theorem Si {x:AV} (h:Sh v=some x):x.one=true:=by
 unfold Sh at h
 split at h<;>first|(cases h;done)|(simp only[ar]at h;subst h;rfl)
theorem LY {z:List AV} (h:kS P t=some z): ∀y∈z,y.one=true:=by
 unfold kS at h;simp only[Option.bind_eq_bind,b9]at h;obtain⟨i,hi,v,hv,h⟩:=h
 split at h
 ·obtain⟨h1,h2⟩:=dC h;intro y hy;obtain⟨k,hk,rfl⟩:=fU hy;exact Si (h2 k _ _ (bC (by omega)) (bC hk))
 ·cases h
theorem BU {z:List AV} (h:cq (AR C) z v.cells.toList) (n:Nat):cq (AR C) (List.replicate n z).flatten (Builtin.zeroCells v.cells n).toList:=by
 have hl:z.length=v.cells.size:=by simpa using h.1
 refine⟨by simp[Builtin.zeroCells,hl],fun k x u hx hu=> ?_⟩
 have hk:k<n*z.length:=by have:=(dc.1 hx).1;simpa using this
 have hpos:0<z.length:=by
  rcases kH z.length with e|e
  ·rw[e]at hk;omega
  ·exact e
 rw[nC z _ _ hk]at hx;have hm:k%z.length<v.cells.size:=by rw[hl]at hpos⊢;exact aV _ hpos
 refine h.2 (k%z.length) x u hx ?_;rw[hl]at hk;simp only[Builtin.zeroCells,ET,Array.toList_range,fy,mf hk,Option.map_some,ar]at hu;rw[<-hu,<-hl];simp[hm]
theorem Xh (h:HR C hf wr w) (ht:P.underlying t=some (.slice e)) {z:List AV} (hz:kS P e=some z)
  {n ver o len:Nat} (hx:AR C (.rs n ver o len z.length) x) {ob:aI} (hn:hf n=some ob) (hver:ob.ver=ver) (hlen':o+len*z.length<=ob.cells.length):
  eF P C hf wr base nm (vS (Builtin.clear_ #[t] ty #[x])) w (.v (.tup [])) [(n,some ⟨ob.ver,ob.cells.take o++(List.replicate len z).flatten++ob.cells.drop (o+len*z.length),ob.gr,ob.el⟩)]:=by
 obtain⟨zv,hzv,hrz,hzs⟩:=pM (C:=C) hz;have hry:=BU hrz len;have hyl:((List.replicate len z).flatten).length=len*z.length:=by simp
 have hone: ∀y∈(List.replicate len z).flatten,y.one=true:=by
  intro y hy;obtain⟨l,hl,hy⟩:=List.mem_flatten.1 hy;rw[(List.mem_replicate.1 hl).2]at hy;exact LY hz y hy
 have hnews:=AD hry hone;have hcur:=(h.live n ob hn).2;have hm:=OQ hx;obtain⟨cs,el,g1,g2,g3,g4,g5⟩:=h.obj n ob hn hm;subst hver
 cases hx with
 |rs _ _ _ _ _ b o' cap _ _ hcap ho hx=>
  obtain⟨-,hx2⟩:=hx _ hcur;obtain⟨rfl,hsz⟩:=hx2 rfl;generalize hN:(Builtin.zeroCells zv.cells len).toList=news at hry hnews;have hnl:news.length=len*z.length:=by rw[<-hry.1,hyl]
  let cs':Array Value:=(cs.toList.take o++news++cs.toList.drop (o+news.length)).toArray
  have hsz':cs'.size=cs.size:=by simp[cs'];omega
  obtain⟨k1,k2⟩:=setRow_heap (cs':=cs') g1;have hrun:(Builtin.clear_ #[t] ty #[.slice (some ⟨C.mu n,o',none⟩) len cap]).run P w= .ok (.tuple #[]) (w.setRow (C.mu n) cs'):=by
   rcases kH len with e|e
   ·subst e;have hn0:news=[]:=lL (by simpa using hnl)
    have e:cs'=cs:=by apply fF;simp[cs',hn0]
    rw[e,setRow_self w _ cs el (0,0) g1];simp[Builtin.clear_,run_underlying ht]
   ·have ho':o'=o:=by
     rcases ho with h|h
     ·omega
     ·exact h
    subst ho';have:=run_storeCells_at P (C.mu n) o' el news 0 cs w g1 (by rw[hnl];omega) hnews
    simp only[Nat.add_zero]at this;obtain⟨m,rfl⟩: ∃m,len=m+1:=⟨len-1,by omega⟩
    simp only[Builtin.clear_,bI,run_underlying ht,Result.andThen,hzv,hN];simp[run_underlying ht,hzv,hN,this,cs']
  refine⟨.tuple #[],w.setRow (C.mu n) cs',C.bump nm n ob.ver, .inl (by simp only[vS,bI,hrun,Result.andThen,Sem.run_pure]), .v (.tup [] [] rfl fun k x v hx=>by simp at hx),?_,Cx.ot nm hcur (aA _),fun _=>ja,Wf.setRow _ (h.wr n ob hn),fun _ _=>rfl, .one (.inr (.inl ⟨_,hn,rfl⟩)) fun _ _=>rfl⟩
  rw[iD];refine h.write nm hn (aA _) _ ob.gr cs' el ob.el (.inr rfl) ⟨_,g1⟩ k1 (by rw[hsz',g2]) ?_ ?_ (fun b _ hb=>k2 b hb) ?_
  ·rw[hsz'];simp only[bR,bQ,mc,hyl];omega
  ·intro hg;have:=g4 hg;rw[hsz'];simp only[bR,bQ,mc,hyl];omega
  ·intro j x v hx hv;have hv':(cs.toList.take o++news++cs.toList.drop (o+news.length))[j]?=some v:=by simpa[cs']using hv
   have hsp:=tO (C:=C) (cells:=ob.cells) (cs:=cs.toList) (fun k x v hx hv=>g5 k x v hx (by simpa using hv)) hry (o:=o) (by omega) (by simpa using g3) (by rw[hyl];simp;omega)
   exact hsp j x v (by rw[hyl];exact hx) hv'
theorem Xw (h:HR C hf wr w) {vx:AV} (hx:AR C vx x) {ao:AO}
  (ha:RE vx=some ao) {s:Sem Next} (hs1: ∀q,x= .pointer (some q)->s=pure (.value x)) (hs2: ∀f a c,x= .func (.func f) a c->s=pure (.value x)):eF P C hf wr base nm s w ao.v ao.up:=by
 unfold RE at ha
 replace hx:=hx.nz
 generalize vx.nz=vx at hx ha
 split at ha<;>simp only[dP,ar,reduceCtorEq]at ha<;>subst ha
 ·skip
  exact .Ej h (by cases hx with|p _ _ _ b=>rw[hs1 _ rfl];rfl) hx
 ·skip
  exact .Ej h (by cases hx with|pp=>rw[hs1 _ rfl];rfl) hx
 ·skip
  exact .Ej h (by cases hx with|v hx=>cases hx with|fn=>rw[hs2 _ _ _ rfl];rfl) hx
 ·skip
  exact .Ej h (by cases hx with|fn=>rw[hs2 _ _ _ rfl];rfl) hx
theorem eV [cW P] {a:Act} {o:Option Operand} {x:Option SX} (h:Bn P o=some x) (ht:TM P C tf a):OR C (x.map (SX.ev tf)) (o.map a.eval):=by
 cases o with
 |none=>simp[Bn]at h;subst h;exact .none
 |some o=>
  simp only[Bn,eP]at h;obtain⟨y,hy,rfl⟩:=h;exact .some (cA hy ht)
theorem VT [cW P] {o:Oper} {so:SO} {a:Act} (hc:tq P o=some so) {ao:AO} (ha:fE nm so tf hf=some ao) (hp:ao.pre) (h:HR C hf wr w) (ht:TM P C tf a)
  (hnm: ¬C.al nm) (hwr: ∀b,base<=b->wr b) (hbase:base<=w.heap.size):eF P C hf wr base nm (execOp a.eval o) w ao.v ao.up:=by
 unfold tq at hc
 split at hc
 case h_1 x ho=>
  simp only[Option.bind_eq_bind,b9,ar]at hc;obtain⟨x',hx,rfl⟩:=hc;simp only[fE,dP,ar]at ha;subst ha;rw[show execOp a.eval o=pure (.value (a.eval x))from by simp only[execOp,ho]]
  exact .Ej h rfl (cA hx ht)
 case h_2 x ho=>
  simp only[Option.bind_eq_bind,b9,ar]at hc;obtain⟨x',hx,rfl⟩:=hc;simp only[fE,dP,ar]at ha;subst ha;rw[show execOp a.eval o=pure (.value (a.eval x))from by simp only[execOp,ho]]
  exact .Ej h rfl (cA hx ht)
 case h_3 c x y ho=>
  simp only[Option.bind_eq_bind,b9,ar]at hc;obtain⟨c',hc',x',hx,y',hy,rfl⟩:=hc;simp only[fE]at ha;have hcv:=cA hc' ht
  split at ha<;>simp only[dP,ar,reduceCtorEq]at ha<;>subst ha
  ·rename_i hb;rw[hb]at hcv;exact .Ej h (val:=a.eval x) (by simp[execOp,ho,Ak hcv,asBool]) (cA hx ht)
  ·rename_i hb;rw[hb]at hcv;exact .Ej h (val:=a.eval y) (by simp[execOp,ho,Ak hcv,asBool]) (cA hy ht)
 case h_4 t ho=>
  simp only[Option.bind_eq_bind,b9,ar]at hc;obtain⟨z,hz,rfl⟩:=hc;simp only[fE,ar]at ha;subst ha;rw[show execOp a.eval o=vS (Instr.alloc t true (.tuple #[]))from by simp only[execOp,ho];rfl]
  exact O3 h hnm hwr hbase hz
 case h_5 t x ho=>
  simp only[Option.bind_eq_bind,b9,ar]at hc;obtain⟨x',hx,rfl⟩:=hc;simp only[fE,ar]at ha;subst ha;rw[show execOp a.eval o=vS (Instr.box t (a.eval x))from by simp only[execOp,ho];rfl]
  exact Xg h hnm hwr hbase t (cA hx ht) hp
 case h_6 t ps ho=>
  rw[show execOp a.eval o=vS (Instr.build t (ps.map fun(i,x)=>(i,a.eval x)))from by simp only[execOp,ho];rfl]
  split at hc
  ·rename_i fs hfs;simp only[Option.bind_eq_bind,b9,ar]at hc
   split at hc
   ·rename_i hall;simp only[b9,ar]at hc;obtain⟨z,hz,qs,hqs,rfl⟩:=hc;simp only[fE]at ha
    split at ha
    ·rename_i cs p hfill;simp only[ar]at ha;subst ha;exact xY h hfs hall hz hqs ht hfill hp
    ·cases ha
   ·cases hc
  ·rename_i cnt e hfs;simp only[Option.bind_eq_bind,b9,ar]at hc;obtain⟨sz,hsz,z,hz,qs,hqs,rfl⟩:=hc;simp only[fE]at ha
   split at ha
   ·rename_i cs p hfill;simp only[ar]at ha;subst ha;exact AI h hfs hsz hz hqs ht hfill hp
   ·cases ha
  ·cases hc
 case h_7 t n ps ho=>
  rw[show execOp a.eval o=vS (Instr.buildSlice t n (ps.map fun(i,x)=>(i,a.eval x)))from by simp only[execOp,ho];rfl]
  split at hc
  ·rename_i e he;simp only[Option.bind_eq_bind,b9,ar]at hc;obtain⟨z,hz,ze,hze,xs,hxs,hc⟩:=hc
   split at hc
   ·rename_i hcond;obtain⟨hrange,hsz,hpos⟩:=hcond;simp only[ar]at hc;subst hc;have hrel:=Ec hxs ht;have hps:(ps.map fun(i,x)=>(i,a.eval x)).toList.map (·.1)=List.range n:=by
     rw[<-hrange];simp
    have hrel':cq (AR C) (xs.map (SX.ev tf)) ((ps.map fun(i,x)=>(i,a.eval x)).toList.map (·.2)):=by
     have e:(ps.map fun(i,x)=>(i,a.eval x)).toList.map (·.2)=(ps.toList.map (·.2)).map a.eval:=by simp
     rw[e];exact hrel
    have hlen:xs.length=n:=by
     have h1:=hrel'.1;have h2:=congrArg List.length hps;simp only[au,qk]at h1 h2;omega
    simp only[fE]at ha
    split at ha
    ·rename_i ys hys;simp only[ar]at ha;subst ha;exact Gi h hbase he hz hze hsz hps hrel' hys hp
    ·simp only[ar]at ha;subst ha;rw[<-hlen]at hsz hps⊢;exact HZ h hnm hwr hbase he hz hze hsz hps hrel' hp
   ·cases hc
  ·cases hc
 case h_8 t x ho=>
  simp only[Option.bind_eq_bind,b9,ar]at hc;obtain⟨ag,hag,z,hz,hc⟩:=hc
  split at hc
  ·rename_i h1;simp only[b9,ar]at hc;obtain⟨x',hx,rfl⟩:=hc;rw[show execOp a.eval o=vS (Instr.loadAt t (a.eval x))from by simp only[execOp,ho];rfl]
   exact aai h hag hz (by simpa using h1) (cA hx ht) ha hp
  ·cases hc
 case h_9 t x y ho=>
  simp only[Option.bind_eq_bind,b9,ar]at hc;obtain⟨z,hz,x',hx,y',hy,rfl⟩:=hc;rw[show execOp a.eval o=(do Instr.storeAt t (a.eval x) (a.eval y);pure .skip)from by simp only[execOp,ho]]
  simp only[fE]at ha;have hxv:=cA hx ht
  split at ha
  ·rename_i n ver q hb;rw[hb]at hxv
   split at ha
   ·rename_i ob hn;simp only[ar]at ha;subst ha;obtain⟨p1,p2,p3,p4⟩:=hp;exact aaj h hz hxv hn p1 p2 (cA hy ht) p3 p4
   ·cases ha
  ·cases ha
 case h_10 op t x y t2 ho=>
  rw[show execOp a.eval o=vS (do eqGuard op t x y (a.eval x) (a.eval y);binOp op t (a.eval x) (a.eval y))from by simp only[execOp,ho];rfl]
  split at hc
  ·simp only[Option.bind_eq_bind,b9,ar]at hc;obtain⟨x',hx,y',hy,rfl⟩:=hc;exact O5 h x y (cA hx ht) (cA hy ht) ha hp
  ·simp only[Option.bind_eq_bind,b9,ar]at hc;obtain⟨x',hx,y',hy,rfl⟩:=hc;exact O5 h x y (cA hx ht) (cA hy ht) ha hp
  ·rename_i hb
   split at hc
   all_goals first|(cases hc;done)|skip
   all_goals
    simp only[Option.bind_eq_bind,b9,ar]at hc;obtain⟨x',hx,y',hy,rfl⟩:=hc;simp only[fE]at ha;have hxv:=cA hx ht;have hyv:=cA hy ht
    split at ha
    ·rename_i p q e1 e2;rw[e1]at hxv;rw[e2]at hyv;simp only[dP,ar]at ha;subst ha
     first
      |exact O4 (ng:=false) h x y hb hxv hyv
      |exact O4 (ng:=true) h x y hb hxv hyv
    ·cases ha
  ·rename_i te hte
   split at hc
   ·rename_i hinfo;obtain⟨j,hj⟩:=vG.1 hinfo
    split at hc
    all_goals first|(cases hc;done)|skip
    all_goals
     simp only[Option.bind_eq_bind,b9,ar]at hc;obtain⟨x',hx,y',hy,rfl⟩:=hc;simp only[fE]at ha
     first
      |exact O8 (ng:=false) h x y hte hj (cA hx ht) (cA hy ht) ha hp
      |exact O8 (ng:=true) h x y hte hj (cA hx ht) (cA hy ht) ha hp
   ·cases hc
  ·rename_i fs hu
   split at hc
   all_goals first|(cases hc;done)|skip
   all_goals
    rename_i q hq;have hk:=cW.plOk (P:=P) q (List.mem_of_find?_eq_some hq);have hqt:=List.find?_some hq;simp only[fK]at hqt;rw[hqt]at hk;simp only[Option.bind_eq_bind,b9,ar]at hc;obtain⟨x',hx,y',hy,rfl⟩:=hc;simp only[fE]at ha;have hxv:=cA hx ht;have hyv:=cA hy ht
    split at ha
    ·rename_i l m e1 e2;rw[e1]at hxv;rw[e2]at hyv
     split at ha
     ·rename_i r hr;simp only[dP,ar]at ha;subst ha
      first
       |exact O6 (ng:=false) h x y hu hk hr hxv hyv
       |exact O6 (ng:=true) h x y hu hk hr hxv hyv
     ·cases ha
    ·cases ha
  ·rename_i te hte
   split at hc
   ·simp only[Option.bind_eq_bind,b9,ar]at hc;obtain⟨x',hx,rfl⟩:=hc;exact O9 (ng:=false) h x _ hte (cA hx ht) ha
   ·simp only[Option.bind_eq_bind,b9,ar]at hc;obtain⟨x',hx,rfl⟩:=hc;exact O9 (ng:=true) h x _ hte (cA hx ht) ha
   ·cases hc
  ·cases hc
 case h_11 op t x ho=>
  simp only[Option.bind_eq_bind,b9,ar]at hc;obtain⟨x',hx,rfl⟩:=hc;rw[show execOp a.eval o=vS (Op.unary op (a.eval x))from by simp only[execOp,ho];rfl]
  exact aak h (cA hx ht) ha
 case h_12 s d x ho=>
  rw[show execOp a.eval o=vS (convert s d (a.eval x))from by simp only[execOp,ho];rfl]
  split at hc
  ·rename_i ks k hs hd;simp only[Option.bind_eq_bind,b9,ar]at hc;obtain⟨x',hx,rfl⟩:=hc;simp only[fE]at ha;have hxv:=cA hx ht
   split at ha
   ·rename_i k' n e1;rw[e1]at hxv;simp only[dP,ar]at ha;subst ha;exact Xj h hs hd hxv
   ·cases ha
  ·rename_i hs hd;simp only[Option.bind_eq_bind,b9,ar]at hc;obtain⟨x',hx,rfl⟩:=hc;simp only[fE]at ha;have hxv:=cA hx ht
   split at ha
   ·rename_i l e1;rw[e1]at hxv;simp only[dP,ar]at ha;subst ha;exact Xk h hs hd hxv
   ·cases ha
  ·rename_i e hs hd
   split at hc
   ·rename_i he;simp only[Option.bind_eq_bind,b9,ar]at hc;obtain⟨z,hz,hc⟩:=hc
    split at hc
    ·simp only[b9,ar]at hc;obtain⟨x',hx,rfl⟩:=hc;simp only[fE]at ha;have hxv:=cA hx ht
     split at ha
     ·rename_i l e1;rw[e1]at hxv;simp only[eu,ar]at ha;subst ha;generalize a.eval x=xx at*
      cases hxv with
      |v hxv=>
       have hxv':=hxv
       cases hxv with
       |sl0=>exact mB h hs he hd hxv' hp
       |sl=>exact mB h hs he hd hxv' hp
       |sle=>exact mB h hs he hd hxv' hp
     ·rename_i l e1;rw[e1]at hxv;simp only[eu,ar]at ha;subst ha;generalize a.eval x=xx at*
      cases hxv with
      |fs _ _ hxv=>exact mB h hs he hd hxv hp
     ·rename_i e1;rw[e1]at hxv;simp only[dP,ar]at ha;subst ha;generalize a.eval x=xx at*;cases hxv;exact mB (l:=[]) h hs he hd .sl0 (by simp)
     ·rename_i n ver q len z' e1;rw[e1]at hxv
      split at ha
      ·rename_i ob hn;simp only[ar]at ha;subst ha;obtain⟨p1,p2,p3,p4⟩:=hp;exact Lb h hs he hd hxv hn p1 p3 p4
      ·cases ha
     ·cases ha
    ·cases hc
   ·cases hc
  ·split at hc
   ·simp only[Option.bind_eq_bind,b9,ar]at hc;obtain⟨x',hx,rfl⟩:=hc;simp only[fE]at ha;have hxv:=cA hx ht
    split at ha
    ·rename_i l e1;rw[e1]at hxv;simp only[dP,ar]at ha;subst ha;exact Xx h hbase (by assumption) (by assumption) (by assumption) hxv
    ·cases ha
   ·cases hc
  ·rename_i t0 hs hd;simp only[Option.bind_eq_bind,b9]at hc;obtain⟨z,hz,hc⟩:=hc
   split at hc
   ·cases hc
   ·rename_i hz0;simp only[b9,ar]at hc;obtain⟨x',hx,rfl⟩:=hc;simp only[fE]at ha;simp only[dJ,eP]at hz;obtain⟨i,hi,rfl⟩:=hz;exact O7 h (cA hx ht) (fun b o T n hsh ho _=>Lib.run_to_unsafe w ⟨b,o,none⟩ hs hd hi hz0 hsh ho) ha hp
  ·rename_i u0 hs hd;simp only[Option.bind_eq_bind,b9]at hc;obtain⟨z,hz,hc⟩:=hc
   split at hc
   ·cases hc
   ·rename_i hz0;simp only[b9,ar]at hc;obtain⟨x',hx,rfl⟩:=hc;simp only[fE]at ha;simp only[dJ,eP]at hz;obtain⟨i,hi,rfl⟩:=hz;exact O7 h (cA hx ht) (fun b o T n hsh ho hl=>Lib.run_from_unsafe w ⟨b,o,none⟩ hs hd hi hsh hl) ha hp
  ·cases hc
 case h_13 t l c ho=>
  rw[show execOp a.eval o=vS (Instr.makeSlice t (a.eval l) (a.eval c))from by simp only[execOp,ho];rfl]
  split at hc
  ·rename_i e he;simp only[Option.bind_eq_bind,b9,ar]at hc;obtain⟨i,hi,z,hz,hc⟩:=hc
   split at hc
   ·rename_i hpos;simp only[b9,ar]at hc;obtain⟨l',hl,c',hc',rfl⟩:=hc;simp only[fE]at ha;have hlv:=cA hl ht;have hcv:=cA hc' ht
    split at ha
    ·rename_i kl ll kc cc e1 e2;rw[e1]at hlv;rw[e2]at hcv;simp only[ar]at ha;subst ha;obtain⟨p1,p2,p3,p4⟩:=hp;exact Xv h hnm hwr hbase he hi hz hpos.1 hlv hcv p1 p2 p3 p4
    ·cases ha
   ·cases hc
  ·cases hc
 case h_14 t x lo hi mx ho=>
  rw[show execOp a.eval o=vS (Instr.sliceAt t (a.eval x) (lo.map a.eval) (hi.map a.eval) (mx.map a.eval))from by simp only[execOp,ho];rfl]
  split at hc
  ·rename_i hu
   split at hc
   ·simp only[Option.bind_eq_bind,b9,ar]at hc;obtain⟨x',hx,lo',hlo,hi',hhi,rfl⟩:=hc;simp only[fE]at ha;have hxv:=cA hx ht
    split at ha
    ·rename_i b e1;rw[e1]at hxv
     split at ha
     ·rename_i l hh p e2;simp only[eu,ar]at ha;subst ha;exact XA h hu hxv (eV hlo ht) (eV hhi ht) e2 hp
     ·cases ha
    ·cases ha
   ·cases hc
  ·rename_i e hu;simp only[Option.bind_eq_bind,b9,ar]at hc;obtain⟨z,hz,x',hx,lo',hlo,hi',hhi,mx',hmx,rfl⟩:=hc;simp only[fE]at ha;have hxv:=cA hx ht
   split at ha
   ·rename_i l e1;rw[e1]at hxv;have hmx0:mx=none:=by cases mx with|none=>rfl|some m=>simp[Bn]at hmx
    subst hmx0
    split at ha
    ·rename_i lo2 hh p e2;simp only[eu,ar]at ha;subst ha;generalize a.eval x=xx at*
     cases hxv with
     |v hxv=>
      have hxv':=hxv
      cases hxv with
      |sl0=>exact DQ h hu hz hxv' (eV hlo ht) (eV hhi ht) e2 hp.1 hp.2
      |sl=>exact DQ h hu hz hxv' (eV hlo ht) (eV hhi ht) e2 hp.1 hp.2
      |sle=>exact DQ h hu hz hxv' (eV hlo ht) (eV hhi ht) e2 hp.1 hp.2
    ·cases ha
   ·rename_i l e1;rw[e1]at hxv;have hmx0:mx=none:=by cases mx with|none=>rfl|some m=>simp[Bn]at hmx
    subst hmx0
    split at ha
    ·rename_i lo2 hh p e2;simp only[eu,ar]at ha;subst ha;generalize a.eval x=xx at*
     cases hxv with
     |fs _ _ hxv=>exact DQ h hu hz hxv (eV hlo ht) (eV hhi ht) e2 hp.1 hp.2
    ·cases ha
   ·rename_i n ver q len z' e1;rw[e1]at hxv;have hmx0:mx=none:=by cases mx with|none=>rfl|some m=>simp[Bn]at hmx
    subst hmx0
    split at ha
    ·rename_i lo2 hh p e2;simp only[eu,ar]at ha;subst ha;obtain⟨p1,rfl⟩:=hp;exact Xz h hu hz hxv (eV hlo ht) (eV hhi ht) e2 p1
    ·cases ha
   ·rename_i l m e1;rw[e1]at hxv
    split at ha
    ·rename_i lo2 hh p kh hi2 km mx2 e2 e3 e4;simp only[eu,ar]at ha;subst ha;obtain⟨p1,p2,p3⟩:=hp;have hhv:=eV (a:=a) (C:=C) (tf:=tf) hhi ht;have hmv:=eV (a:=a) (C:=C) (tf:=tf) hmx ht;rw[e3]at hhv e2;simp only[Option.map_some,e4]at hmv;generalize hhe:hi.map a.eval=hv at*;generalize hme:mx.map a.eval=mv at*
     cases hhv with|some hhv=> ?_
     cases hmv with|some hmv=> ?_
     have i1:=fQ hhv;subst i1;have i2:=fQ hmv;subst i2;generalize a.eval x=xx at*
     cases hxv with
     |v hxv=>
      have hxv':=hxv
      cases hxv with
      |sl0=>exact AK h hu hz hxv' (eV hlo ht) e2 p1 p2 p3
      |sl=>exact AK h hu hz hxv' (eV hlo ht) e2 p1 p2 p3
      |sle=>exact AK h hu hz hxv' (eV hlo ht) e2 p1 p2 p3
    ·cases ha
   ·rename_i l m e1;rw[e1]at hxv
    split at ha
    ·rename_i lo2 hh p kh hi2 km mx2 e2 e3 e4;simp only[eu,ar]at ha;subst ha;have hhv:=eV (a:=a) (C:=C) (tf:=tf) hhi ht;have hmv:=eV (a:=a) (C:=C) (tf:=tf) hmx ht;rw[e3]at hhv e2;simp only[Option.map_some,e4]at hmv;generalize hhe:hi.map a.eval=hv at*;generalize hme:mx.map a.eval=mv at*
     cases hhv with|some hhv=> ?_
     cases hmv with|some hmv=> ?_
     have i1:=fQ hhv;subst i1;have i2:=fQ hmv;subst i2;obtain⟨p1,p2,p3⟩:=hp;generalize a.eval x=xx at*
     cases hxv with
     |fs _ _ hxv=>exact AK h hu hz hxv (eV hlo ht) e2 p1 p2 p3
    ·cases ha
   ·rename_i m e1;rw[e1]at hxv
    split at ha
    ·rename_i lo2 hh p kh hi2 km mx2 e2 e3 e4;simp only[eu,ar]at ha;subst ha;have hhv:=eV (a:=a) (C:=C) (tf:=tf) hhi ht;have hmv:=eV (a:=a) (C:=C) (tf:=tf) hmx ht;rw[e3]at hhv e2;simp only[Option.map_some,e4]at hmv;generalize hhe:hi.map a.eval=hv at*;generalize hme:mx.map a.eval=mv at*
     cases hhv with|some hhv=> ?_
     cases hmv with|some hmv=> ?_
     have i1:=fQ hhv;subst i1;have i2:=fQ hmv;subst i2;obtain⟨p1,p2⟩:=hp;generalize a.eval x=xx at*;cases hxv;have h9:=AK (ls:=[]) (base:=base) (nm:=nm) (km:=km) h hu hz (PR.sl0) (eV hlo ht) e2 p1 p2 (by simp)
     simpa only[List.take_nil,List.drop_nil]using h9
    ·cases ha
   ·rename_i n ver q len z' m e1;rw[e1]at hxv
    split at ha
    ·rename_i lo2 hh p kh hi2 km mx2 e2 e3 e4;simp only[eu,ar]at ha;subst ha;have hhv:=eV (a:=a) (C:=C) (tf:=tf) hhi ht;have hmv:=eV (a:=a) (C:=C) (tf:=tf) hmx ht;rw[e3]at hhv e2;simp only[Option.map_some,e4]at hmv;generalize hhe:hi.map a.eval=hv at*;generalize hme:mx.map a.eval=mv at*
     cases hhv with|some hhv=> ?_
     cases hmv with|some hmv=> ?_
     have i1:=fQ hhv;subst i1;have i2:=fQ hmv;subst i2;obtain⟨p1,p2,rfl⟩:=hp;exact Tk h hu hz hxv (eV hlo ht) e2 p1 p2
    ·cases ha
   ·cases ha
  ·rename_i n e hu;simp only[Option.bind_eq_bind,b9,ar]at hc;obtain⟨z,hz,x',hx,lo',hlo,hi',hhi,mx',hmx,rfl⟩:=hc;simp only[fE]at ha;have hxv:=cA hx ht
   split at ha
   ·rename_i m ver q e1;rw[e1]at hxv;have hmx0:mx=none:=by cases mx with|none=>rfl|some m=>simp[Bn]at hmx
    subst hmx0
    split at ha
    ·rename_i ob l2 hh p hn e2;simp only[ar]at ha;subst ha;obtain⟨p1,p2,p3⟩:=hp;exact Xy h hu hz hxv hn p2 p3 (eV hlo ht) (eV hhi ht) e2 p1
    ·cases ha
   ·cases ha
  ·cases hc
 case h_15 s x f ho=>
  rw[show execOp a.eval o=vS (Instr.fieldAt s (a.eval x) f)from by simp only[execOp,ho];rfl]
  split at hc
  ·rename_i fs hs;simp only[Option.bind_eq_bind,b9,ar]at hc;obtain⟨fl,hfl,z,hz,hc⟩:=hc
   split at hc
   ·cases hc
   ·rename_i h0;simp only[b9,ar]at hc;obtain⟨x',hx,rfl⟩:=hc;exact Xm h hs hfl hz h0 (cA hx ht) ha
  ·cases hc
 case h_16 s x f ho=>
  rw[show execOp a.eval o=vS (Instr.field s (a.eval x) f)from by simp only[execOp,ho];rfl]
  split at hc
  ·rename_i fs hs;simp only[Option.bind_eq_bind,b9,ar]at hc;obtain⟨fl,hfl,z,hz,ag,hag,hc⟩:=hc
   split at hc
   ·rename_i h1;simp only[b9,ar]at hc;obtain⟨x',hx,rfl⟩:=hc;simp only[fE,eu,ar]at ha;subst ha;exact Xn h hs hfl hag hz (by simpa using h1) (cA hx ht) hp.1 hp.2
   ·cases hc
  ·cases hc
 case h_17 t x i ho=>
  rw[show execOp a.eval o=vS (Instr.indexAt t (a.eval x) (a.eval i))from by simp only[execOp,ho];rfl]
  split at hc
  ·rename_i e hu;simp only[Option.bind_eq_bind,b9,ar]at hc;obtain⟨z,hz,x',hx,i',hi,rfl⟩:=hc;exact Xr h hu hz (cA hx ht) (cA hi ht) ha hp
  ·rename_i n e hu;simp only[Option.bind_eq_bind,b9,ar]at hc;obtain⟨z,hz,x',hx,i',hi,rfl⟩:=hc;exact Xq h hu hz (cA hx ht) (cA hi ht) ha hp
  ·cases hc
 case h_18 t x i ho=>
  rw[show execOp a.eval o=vS (Instr.index t (a.eval x) (a.eval i))from by simp only[execOp,ho];rfl]
  split at hc
  ·rename_i hu;simp only[Option.bind_eq_bind,b9,ar]at hc;obtain⟨x',hx,i',hi,rfl⟩:=hc;simp only[fE]at ha;have hxv:=cA hx ht;have hiv:=cA hi ht
   split at ha
   ·rename_i l k n e1 e2;rw[e1]at hxv;rw[e2]at hiv;simp only[eu,ar]at ha;subst ha;exact Xo h hu hxv hiv hp.1 hp.2
   ·cases ha
  ·rename_i n e hu;simp only[Option.bind_eq_bind,b9,ar]at hc;obtain⟨z,hz,ag,hag,hc⟩:=hc
   split at hc
   ·rename_i h1;simp only[b9,ar]at hc;obtain⟨x',hx,i',hi,rfl⟩:=hc;simp only[fE]at ha;have hxv:=cA hx ht;have hiv:=cA hi ht
    split at ha
    ·rename_i k j e2;rw[e2]at hiv;simp only[eu,ar]at ha;subst ha;obtain⟨p1,p2,p3,p4⟩:=hp;exact Xp h hu hag hz (by simpa using h1) hxv p1 hiv p2 p3 p4
    ·cases ha
   ·cases hc
  ·cases hc
 case h_19 x k ho=>
  simp only[Option.bind_eq_bind,b9,ar]at hc;obtain⟨x',hx,rfl⟩:=hc;rw[show execOp a.eval o=vS (Instr.extract (a.eval x) k)from by simp only[execOp,ho];rfl]
  exact Xl h (cA hx ht) ha hp
 case h_20 c ho=>
  unfold zU at hc
  split at hc
  ·simp only[Option.bind_eq_bind,b9,ar]at hc;obtain⟨f',hf',as,has,rfl⟩:=hc;simp[fE]at ha
  ·rename_i b hb;obtain⟨K,run⟩: ∃K,execOp a.eval o=builtin b c.argTypes o.type K (c.args.map a.eval):=⟨c.args.map fun| .const _=>true| _=>false,by simp only[execOp,ho,resolve,hb];rfl⟩
   split at hc
   ·
    rename_i x t hargs htys;have ea:c.args= #[x]:=by apply fF;simpa using hargs
    have et:c.argTypes= #[t]:=by apply fF;simpa using htys
    rw[run,ea,et,show(#[x]:Array Operand).map a.eval= #[a.eval x]from by simp]
    rw[show(builtin .len #[t] o.type K #[a.eval x])=vS (Builtin.len_ #[t] o.type #[a.eval x])from rfl]
    split at hc
    ·rename_i hu;simp only[Option.bind_eq_bind,b9,ar]at hc;obtain⟨x',hx,rfl⟩:=hc;simp only[fE]at ha;have hxv:=cA hx ht
     split at ha
     ·rename_i l e1;rw[e1]at hxv;simp only[dP,ar]at ha;subst ha;exact Th h hu hxv
     ·cases ha
    ·rename_i e hu;simp only[Option.bind_eq_bind,b9,ar]at hc;obtain⟨x',hx,rfl⟩:=hc;simp only[fE]at ha;have hxv:=cA hx ht
     split at ha
     ·rename_i n e1;simp only[dP,ar]at ha;subst ha;exact Xt h hu hxv e1
     ·cases ha
    ·rename_i n e hu;simp only[ar]at hc;subst hc;simp only[fE,dP,ar]at ha;subst ha;exact .val h (val:= .int .i64 n) (by simp[Builtin.len_,run_underlying hu,goInt]) (.v (.i _ _))
    ·cases hc
   ·
    rename_i x y t u hargs htys;have ea:c.args= #[x,y]:=by apply fF;simpa using hargs
    have et:c.argTypes= #[t,u]:=by apply fF;simpa using htys
    rw[run,ea,et,show(#[x,y]:Array Operand).map a.eval= #[a.eval x,a.eval y]from by simp]
    rw[show(builtin .append #[t,u] o.type K #[a.eval x,a.eval y])=vS (Builtin.append_ #[t,u] o.type #[a.eval x,a.eval y])from rfl]
    have key: ∀(e:TypeId) (i:TypeInfo) (z:Value) (x' y':SX),P.underlying t=some (.slice e)->P.info? e=some i->i.zero=some z->z.cells.size=i.size->0<i.size->(P.underlying u=some .string\/ ∃e',P.underlying u=some (.slice e'))->sx P x=some x'->sx P y=some y'->
      fE nm (.app e i.size i.bytes x' y') tf hf=some ao->eF P C hf wr base nm (vS (Builtin.append_ #[t,u] o.type #[a.eval x,a.eval y])) w ao.v ao.up:=by
     intro e i z x' y' hte hi hz hzs hpos hu hx hy ha;have hxv:=cA hx ht;have hyv:=cA hy ht;simp only[fE]at ha
     split at ha
     ·rename_i ys k p r hsrc
      split at ha
      ·rename_i e1;rw[e1]at hxv;generalize a.eval x=xx at*;cases hxv
       by_cases hk:k=0
       ·rw[af hk,ar]at ha;subst ha;obtain⟨news,hlen,hfc,hry,hyl⟩:=tQ (P:=P) h hyv hsrc hp;have hf0:=hfc w 0 rfl (by omega)
        refine .val h (val:= .slice none 0 0) ?_ .sn;subst hk;rcases hu with hu|⟨e',hu⟩<;>simp[Builtin.append_,run_underlying hte,run_underlying hu,sizeOf,typeInfo,hi,hlen,hf0]
       ·rw[aa hk,ar]at ha;subst ha;obtain⟨p1,p2,p3,p4⟩:=hp;have:=AH (ty:=o.type) h hnm hwr hbase hte hi hz hzs hu hyv hsrc p1 (q:=none) (len:=0) (cells:=[]) (olds:=[]) (fun w' _=>by simp[Builtin.firstCells]) .nil (by simp) hk (by simpa using p3) (by simpa using p4)
        simpa using this
      ·rename_i l e1;rw[e1]at hxv;generalize a.eval x=xx at*
       cases hxv with
       |fs _ q hxv=>
        by_cases hk:k=0
        ·rw[af hk,ar]at ha;subst ha;obtain⟨news,hlen,hfc,hry,hyl⟩:=tQ (P:=P) h hyv hsrc hp;have hf0:=hfc w 0 rfl (by omega)
         refine .val h (val:= .slice q l.length l.length) ?_ (.fs l q hxv);subst hk
         cases q<;>rcases hu with hu|⟨e',hu⟩<;>simp[Builtin.append_,run_underlying hte,run_underlying hu,sizeOf,typeInfo,hi,hlen,hf0,storeCells]
        ·rw[aa hk,ar]at ha;subst ha;obtain⟨p1,p2,p3,p4,p5⟩:=hp;obtain⟨olds,ho1,ho2,ho3,ho4⟩:=tQ (P:=P) (z:=i.size) h (.v hxv) (ys:=(l.flatMap PV.cells).map .v) (k:=l.length) (r:=[]) rfl p3;exact AH (ty:=o.type) h hnm hwr hbase hte hi hz hzs hu hyv hsrc p1 (q:=q) (len:=l.length) (fun w' hw=>by
          have:=ho2 w' l.length hw (aA _);rw[cQ (by rw[<-ho3.1,ho4];exact aA _)]at this
          exact this) ho3 ho4 hk p4 p5
      ·rename_i n ver q len z' e1;rw[e1]at hxv
       split at ha
       ·rename_i ob hn;rw[ar]at ha;subst ha;obtain⟨p1,p2,p3,rfl,rfl,p6,p7,p8⟩:=hp;exact La (ty:=o.type) h hwr hbase hte hi hz hzs hpos hu hyv hsrc p1 p2 hxv hn p3 p6 p7 p8
       ·cases ha
      ·rename_i l e1;rw[e1]at hxv;generalize a.eval x=xx at*
       by_cases hk:k=0
       ·rw[af hk,ar]at ha;subst ha;obtain⟨news,hlen,hfc,hry,hyl⟩:=tQ (P:=P) h hyv hsrc hp;have hf0:=hfc w 0 rfl (by omega)
        refine .val h (val:=xx) ?_ hxv;subst hk
        cases hxv with
        |v hxv=>cases hxv with
         |sl0=>rcases hu with hu|⟨e',hu⟩<;>simp[Builtin.append_,run_underlying hte,run_underlying hu,sizeOf,typeInfo,hi,hlen,hf0,storeCells]
         |sle b cap=>rcases hu with hu|⟨e',hu⟩<;>simp[Builtin.append_,run_underlying hte,run_underlying hu,sizeOf,typeInfo,hi,hlen,hf0,storeCells]
         |sl l z vs bk of cap hc hz h1 hl hr h=>rcases hu with hu|⟨e',hu⟩<;>simp[Builtin.append_,run_underlying hte,run_underlying hu,sizeOf,typeInfo,hi,hlen,hf0,storeCells,hc]
       ·rw[aa hk]at ha;cases ha
      ·cases ha
     ·cases ha
    split at hc
    ·rename_i e e' hte hue;simp only[Option.bind_eq_bind,b9,ar]at hc;obtain⟨i,hi,z,hz,hc⟩:=hc
     split at hc
     ·rename_i hcond;simp only[b9,ar]at hc;obtain⟨x',hx,y',hy,rfl⟩:=hc;exact key e i z x' y' hte hi hz hcond.1 hcond.2.1 (.inr ⟨_,hue⟩) hx hy ha
     ·cases hc
    ·rename_i e hte hue;simp only[Option.bind_eq_bind,b9,ar]at hc;obtain⟨i,hi,z,hz,hc⟩:=hc
     split at hc
     ·rename_i hcond;simp only[b9,ar]at hc;obtain⟨x',hx,y',hy,rfl⟩:=hc;exact key e i z x' y' hte hi hz hcond.1 (by omega) (.inl hue) hx hy ha
     ·cases hc
    ·cases hc
   ·
    rename_i x y t u hargs htys;have ea:c.args= #[x,y]:=by apply fF;simpa using hargs
    have et:c.argTypes= #[t,u]:=by apply fF;simpa using htys
    rw[run,ea,et,show(#[x,y]:Array Operand).map a.eval= #[a.eval x,a.eval y]from by simp]
    rw[show(builtin .copy #[t,u] o.type K #[a.eval x,a.eval y])=vS (Builtin.copy_ #[t,u] o.type #[a.eval x,a.eval y])from rfl]
    have key: ∀(e:TypeId) (z:Nat) (x' y':SX),P.underlying t=some (.slice e)->dJ P e=some z->sx P x=some x'->sx P y=some y'->
      fE nm (.cpy z x' y') tf hf=some ao->eF P C hf wr base nm (vS (Builtin.copy_ #[t,u] o.type #[a.eval x,a.eval y])) w ao.v ao.up:=by
     intro e z x' y' hte hz hx hy ha;have hxv:=cA hx ht;have hyv:=cA hy ht;simp only[fE]at ha
     split at ha
     ·rename_i ys k p r n ver q len z' hsrc e1;rw[e1]at hxv
      split at ha
      ·rename_i ob hn;rw[ar]at ha;subst ha;obtain⟨p1,p2,p3,rfl,p5⟩:=hp;exact Xi (ty:=o.type) h hte hz hyv hsrc p1 p2 hxv hn p3 p5
      ·cases ha
     ·cases ha
    split at hc
    ·rename_i e e' hte hue;simp only[Option.bind_eq_bind,b9,ar]at hc;obtain⟨z,hz,x',hx,y',hy,rfl⟩:=hc;exact key e z x' y' hte hz hx hy ha
    ·rename_i e hte hue;simp only[Option.bind_eq_bind,b9,ar]at hc;obtain⟨z,hz,hc⟩:=hc
     split at hc
     ·rename_i hcond;simp only[b9,ar]at hc;obtain⟨x',hx,y',hy,rfl⟩:=hc;subst hcond;exact key e 1 x' y' hte hz hx hy ha
     ·cases hc
    ·cases hc
   ·
    rename_i x t hargs htys;have ea:c.args= #[x]:=by apply fF;simpa using hargs
    have et:c.argTypes= #[t]:=by apply fF;simpa using htys
    rw[run,ea,et,show(#[x]:Array Operand).map a.eval= #[a.eval x]from by simp]
    rw[show(builtin .clear #[t] o.type K #[a.eval x])=vS (Builtin.clear_ #[t] o.type #[a.eval x])from rfl]
    split at hc
    ·rename_i e hte;simp only[Option.bind_eq_bind,b9,ar]at hc;obtain⟨z,hz,x',hx,rfl⟩:=hc;have hxv:=cA hx ht;simp only[fE]at ha
     split at ha
     ·rename_i n ver q len z' e1;rw[e1]at hxv
      split at ha
      ·rename_i ob hn;rw[ar]at ha;subst ha;obtain⟨p1,rfl,p3⟩:=hp;exact Xh (ty:=o.type) h hte hz hxv hn p1 p3
      ·cases ha
     ·cases ha
    ·cases hc
   ·
    rename_i x y hargs;have ea:c.args= #[x,y]:=by apply fF;simpa using hargs
    rw[run,ea,show(#[x,y]:Array Operand).map a.eval= #[a.eval x,a.eval y]from by simp]
    rw[show(builtin .max c.argTypes o.type K #[a.eval x,a.eval y])=vS (if true then Builtin.max_ c.argTypes o.type #[a.eval x,a.eval y]else Builtin.min_ c.argTypes o.type #[a.eval x,a.eval y])from rfl]
    simp only[Option.bind_eq_bind,b9,ar]at hc;obtain⟨x',hx,y',hy,rfl⟩:=hc;have hxv:=cA hx ht;have hyv:=cA hy ht;simp only[fE]at ha
    split at ha
    ·rename_i k m k' n e1 e2;rw[e1]at hxv;rw[e2]at hyv;simp only[eu,ar]at ha;subst ha;exact U2 h hxv hyv
    ·cases ha
   ·
    rename_i x y hargs;have ea:c.args= #[x,y]:=by apply fF;simpa using hargs
    rw[run,ea,show(#[x,y]:Array Operand).map a.eval= #[a.eval x,a.eval y]from by simp]
    rw[show(builtin .min c.argTypes o.type K #[a.eval x,a.eval y])=vS (if false then Builtin.max_ c.argTypes o.type #[a.eval x,a.eval y]else Builtin.min_ c.argTypes o.type #[a.eval x,a.eval y])from rfl]
    simp only[Option.bind_eq_bind,b9,ar]at hc;obtain⟨x',hx,y',hy,rfl⟩:=hc;have hxv:=cA hx ht;have hyv:=cA hy ht;simp only[fE]at ha
    split at ha
    ·rename_i k m k' n e1 e2;rw[e1]at hxv;rw[e2]at hyv;simp only[eu,ar]at ha;subst ha;exact U2 h hxv hyv
    ·cases ha
   ·
    rename_i x hargs;have ea:c.args= #[x]:=by apply fF;simpa using hargs
    rw[run,ea,show(#[x]:Array Operand).map a.eval= #[a.eval x]from by simp]
    rw[show(builtin .unsafeSliceData c.argTypes o.type K #[a.eval x])=vS (Builtin.unsafeSliceData_ c.argTypes o.type #[a.eval x])from rfl]
    simp only[Option.bind_eq_bind,b9,ar]at hc;obtain⟨x',hx,rfl⟩:=hc;simp only[fE]at ha;exact XB h (cA hx ht) ha hp
   ·
    rename_i x y pt it hargs htys;have ea:c.args= #[x,y]:=by apply fF;simpa using hargs
    have et:c.argTypes= #[pt,it]:=by apply fF;simpa using htys
    rw[run,ea,et,show(#[x,y]:Array Operand).map a.eval= #[a.eval x,a.eval y]from by simp]
    rw[show(builtin .unsafeString #[pt,it] o.type K #[a.eval x,a.eval y])=vS (Builtin.unsafeString_ #[pt,it] o.type #[a.eval x,a.eval y])from rfl]
    split at hc
    ·rename_i e hu
     split at hc
     ·rename_i hce;simp only[Option.bind_eq_bind,b9,ar]at hc;obtain⟨x',hx,y',hy,rfl⟩:=hc;simp only[fE]at ha;exact XD h hu hce (cA hx ht) (cA hy ht) ha hp
     ·cases hc
    ·cases hc
   ·cases hc
  ·cases hc
 case h_21 f x y ho=>
  simp only[Option.bind_eq_bind,b9,ar]at hc;obtain⟨x',hx,y',hy,rfl⟩:=hc;simp only[fE,dP,ar]at ha;subst ha;rw[show execOp a.eval o=vS (Instr.makeFunc f (x.map a.eval) (y.map a.eval))from by simp only[execOp,ho];rfl]
  have hxr:=Ec hx ht;have hyr:=Ec hy ht;refine .val h (val:= .func f (x.map a.eval) (y.map a.eval)) rfl ?_;have e1:x.map a.eval=(x.toList.map a.eval).toArray:=fF (by simp)
  have e2:y.map a.eval=(y.toList.map a.eval).toArray:=fF (by simp)
  split
  ·have n1:x.toList.map a.eval=[]:=hxr.eE;have n2:y.toList.map a.eval=[]:=hyr.eE;rw[e1,e2,n1,n2];exact .v (.fn f)
  ·rw[e1,e2];exact .fn f _ _ _ _ hxr.1 hyr.1 hxr.2 hyr.2
 case h_22 x ho=>
  simp only[Option.bind_eq_bind,b9,ar]at hc;obtain⟨x',hx,rfl⟩:=hc;refine Xw h (cA hx ht) ha ?_ ?_
  ·intro q hq;simp only[execOp,ho,hq]
  ·intro f b c hq;simp only[execOp,ho,hq]
 case h_23 t x ho=>
  rw[show execOp a.eval o=vS (Instr.makeInterface t (a.eval x))from by simp only[execOp,ho];rfl]
  have key: ∀x',sx P x=some x'->P.concrete t=true->fE nm (.mki t x') tf hf=some ao->eF P C hf wr base nm (vS (Instr.makeInterface t (a.eval x))) w ao.v ao.up:=by
   intro x' hx hco ha;simp only[fE]at ha;have hxv:=cA hx ht
   split at ha
   ·rename_i y e1;rw[e1]at hxv;simp only[dP,ar]at ha;subst ha
    cases hxv with
    |v hxv=>exact .val h (run_makeInterface w t (a.eval x) hco) (.v (.ifc t y _ hxv))
   ·cases ha
  split at hc
  ·rename_i hu;simp only[Option.bind_eq_bind,b9,ar]at hc;obtain⟨x',hx,rfl⟩:=hc;exact key x' hx (by simp[Program.concrete,hu]) ha
  ·rename_i hu;simp only[Option.bind_eq_bind,b9,ar]at hc;obtain⟨x',hx,rfl⟩:=hc;exact key x' hx (by simp[Program.concrete,hu]) ha
  ·cases hc
 case h_24 t r ho=>
  have key: ∀kt et,P.underlying t=some (.map kt et)->(r=none\/ ∃k n,r=some (.const (.int k n)))->fE nm .mkm tf hf=some ao->eF P C hf wr base nm (execOp a.eval o) w ao.v ao.up:=by
   intro kt et hu hr ha;simp only[fE,ar]at ha;subst ha;rw[show execOp a.eval o=vS (Instr.makeMap t (r.map a.eval))from by simp only[execOp,ho];rfl]
   refine Xu h hnm hwr hbase ?_;rcases hr with rfl|⟨k,n,rfl⟩
   ·simp only[vS,Instr.makeMap,Option.map_none,bI,Result.andThen,run_newObj,Sem.run_pure];rfl
   ·simp[vS,Instr.makeMap,bI,Result.andThen,run_newObj,run_underlying hu,asInt,asIntOf,Act.eval]
  split at hc
  ·rename_i kt et hu;simp only[ar]at hc;subst hc;exact key kt et hu (.inl rfl) ha
  ·rename_i k n kt et hu;simp only[ar]at hc;subst hc;exact key kt et hu (.inr ⟨k,n,rfl⟩) ha
  ·cases hc
 case h_25 t x k c ho=>
  rw[show execOp a.eval o=vS (Instr.lookup t (a.eval x) (a.eval k) c)from by simp only[execOp,ho];rfl]
  have key: ∀st kt et z x' k' d,P.underlying t=some (.map kt et)->P.underlying kt=some d->Sk st d->Ha P et=some z->sx P x=some x'->sx P k=some k'->fE nm (.mget c st z x' k') tf hf=some ao->eF P C hf wr base nm (vS (Instr.lookup t (a.eval x) (a.eval k) c)) w ao.v ao.up:=by
   intro st kt et z x' k' d hu hkd hd hz hx hk ha;simp only[fE]at ha;have hxv:=cA hx ht;have hkv:=cA hk ht
   split at ha
   ·rename_i n kk e1 e2;rw[e1]at hxv;rw[e2]at hkv
    split at ha
    ·rename_i ob hn;simp only[ar]at ha;subst ha;exact Ti h hu hkd hd hz hn hxv hkv hp
    ·cases ha
   ·cases ha
  split at hc
  ·rename_i kt et hu;simp only[Option.bind_eq_bind,b9]at hc;obtain⟨z,hzs,x',hx,k',hk,hc⟩:=hc
   split at hc
   ·rename_i q hkd;simp only[ar]at hc;subst hc;exact key false kt et z x' k' _ hu hkd ⟨_,rfl⟩ hzs hx hk ha
   ·rename_i hkd;simp only[ar]at hc;subst hc;exact key true kt et z x' k' _ hu hkd rfl hzs hx hk ha
   ·cases hc
  ·cases hc
 case h_26 t m k v ho=>
  rw[show execOp a.eval o=(do Instr.mapUpdate t (a.eval m) (a.eval k) (a.eval v);pure .skip)from by simp only[execOp,ho]]
  have key: ∀st kt et x' k' v' d,P.underlying t=some (.map kt et)->P.underlying kt=some d->Sk st d->sx P m=some x'->sx P k=some k'->sx P v=some v'->fE nm (.mset st x' k' v') tf hf=some ao->eF P C hf wr base nm (do Instr.mapUpdate t (a.eval m) (a.eval k) (a.eval v);pure .skip) w ao.v ao.up:=by
   intro st kt et x' k' v' d hu hkd hd hx hk hv ha;simp only[fE]at ha;have hxv:=cA hx ht;have hkv:=cA hk ht;have hvv:=cA hv ht
   split at ha
   ·rename_i n kk vv e1 e2 e3;rw[e1]at hxv;rw[e2]at hkv;rw[e3]at hvv
    split at ha
    ·rename_i ob hn;simp only[ar]at ha;subst ha;exact Tj h hu hkd hd hn hxv hkv hvv hp
    ·cases ha
   ·cases ha
  split at hc
  ·rename_i kt et hu;simp only[Option.bind_eq_bind,b9]at hc;obtain⟨x',hx,k',hk,v',hv,hc⟩:=hc
   split at hc
   ·rename_i q hkd;simp only[ar]at hc;subst hc;exact key false kt et x' k' v' _ hu hkd ⟨_,rfl⟩ hx hk hv ha
   ·rename_i hkd;simp only[ar]at hc;subst hc;exact key true kt et x' k' v' _ hu hkd rfl hx hk hv ha
   ·cases hc
  ·cases hc
 case h_27=>simp only[ar]at hc;subst hc;simp[fE]at ha
 case h_28=>cases hc
end
