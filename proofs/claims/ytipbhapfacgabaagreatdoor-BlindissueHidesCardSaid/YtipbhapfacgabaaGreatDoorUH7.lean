/- Part of the proof. -/
import Derived.Laws.Build
import Derived.Test.YtipbhapfacgabaaGreatDoorUH6
set_option linter.all false
set_option maxHeartbeats 1000000
namespace Go.Dom
open Go.RowKit
section
variable {P:Program} {C:Cx} {hf:Nat->Option aC} {wr:Nat->Prop} {base nm:Nat} {w:World} {tf:Nat->AV}
variable {e t ty:TypeId} {v x:Value}
theorem Vd (h:HR C hf wr w) {u:TypeId} (ht:P.underlying t=some (.slice e)) {z:Nat} (hz:cJ P e=some z)
  {vy:AV} {y:Value} (hy:AR C vy y) {ys:List AV} {k:Nat} {p:Prop} {r:List Nat} (hs:qc hf z vy=some (ys,k,p,r)) (hp:p) (h1: ∀y∈ys,y.one=true)
  {n ver o len:Nat} (hx:AR C (.rs n ver o len z) x) {ob:aC} (hn:hf n=some ob) (hver:ob.ver=ver) (hlen':o+len*z<=ob.cells.length):
  dI P C hf wr base nm (vS (Builtin.copy_ #[t,u] ty #[x,y])) w (.v (.i .i64 (min k len:Nat))) [(n,some ⟨ob.ver,ob.cells.take o++ys.take (min k len*z)++ob.cells.drop (o+min k len*z),ob.gr,ob.el⟩)]:=by
 obtain⟨news,hlen,hfc,hry,hyl⟩:=rN (P:=P) h hy hs hp;have hnews:=yP hry h1;have hcur:=(h.live n ob hn).2;have hm:=NC hx;obtain⟨cs,el,g1,g2,g3,g4,g5⟩:=h.obj n ob hn hm;subst hver
 cases hx with
 |rs _ _ _ _ _ b o' cap _ _ hcap ho hx=>
  obtain⟨-,hx2⟩:=hx _ hcur;obtain⟨rfl,hsz⟩:=hx2 rfl;have hm1:min k len<=k:=Nat.min_le_left _ _;have hm2:min k len<=len:=Nat.min_le_right _ _;generalize hmm:min k len=m at*;have hfm:=hfc w m rfl hm1;have hmz:m*z<=news.length:=by rw[<-hry.1,hyl];exact cK _ hm1
  have hml:(news.take (m*z)).length=m*z:=by simp;omega
  have hfit:o+m*z<=ob.cells.length:=by have:=cK z hm2;omega
  let cs':Array Value:=(cs.toList.take o++news.take (m*z)++cs.toList.drop (o+(news.take (m*z)).length)).toArray
  have hsz':cs'.size=cs.size:=by simp[cs'];omega
  obtain⟨k1,k2⟩:=setRow_heap (cs':=cs') g1;have hst:(storeCells ⟨C.mu n,o',none⟩ (news.take (m*z))).run P w= .ok () (w.setRow (C.mu n) cs'):=by
   rcases ho with ho|ho
   ·have hm0:m=0:=by omega
    have e:cs'=cs:=by apply fo;simp[cs',hm0]
    rw[e,setRow_self w _ cs el (0,0) g1];subst hm0;simp[storeCells]
   ·subst ho;have:=run_storeCells_at P (C.mu n) o' el (news.take (m*z)) 0 cs w g1 (by rw[hml];omega) (fun v hv=>hnews v (kO hv))
    simp only[Nat.add_zero]at this;exact this
  have hmin:Nat.min k len=m:=hmm;have hrun:(Builtin.copy_ #[t,u] ty #[.slice (some ⟨C.mu n,o',none⟩) len cap,y]).run P w= .ok (.int .i64 m) (w.setRow (C.mu n) cs'):=by
   simp[Builtin.copy_,run_underlying ht,hlen,hmin,cZ hz,hfm,hst,goInt]
  refine⟨.int .i64 m,w.setRow (C.mu n) cs',C.bump nm n ob.ver, .inl (by simp only[vS,bT,hrun,Result.andThen,Sem.run_pure]), .v (.i _ _),?_,Cx.mV nm hcur (aB _),fun _=>iN,Wf.setRow _ (h.wr n ob hn),fun _ _=>rfl, .one (.inr (.inl ⟨_,hn,rfl⟩)) fun _ _=>rfl⟩
  rw[ia];have hyt:(ys.take (m*z)).length=m*z:=by rw[da,hyl];exact pk (cK _ hm1)
  refine h.write nm hn (aB _) _ ob.gr cs' el ob.el (.inr rfl) ⟨_,g1⟩ k1 (by rw[hsz',g2]) ?_ ?_ (fun b _ hb=>k2 b hb) ?_
  ·rw[hsz'];simp only[bU,da,lJ,hyl];have:=cK z hm1;omega
  ·intro hg;have:=g4 hg;rw[hsz'];simp only[bU,da,lJ,hyl];have:=cK z hm1;omega
  ·intro j x v hx hv;have hv':(cs.toList.take o++news.take (m*z)++cs.toList.drop (o+(news.take (m*z)).length))[j]?=some v:=by simpa[cs']using hv
   have hsp:=rL (C:=C) (cells:=ob.cells) (cs:=cs.toList) (fun k x v hx hv=>g5 k x v hx (by simpa using hv)) (hry.take (m*z)) (o:=o) (by omega) (by simpa using g3) (by rw[hyt];simp;omega)
   exact hsp j x v (by rw[hyt];exact hx) hv'
theorem Qm {x:AV} (h:Ql v=some x):x.one=true:=by
 unfold Ql at h
 split at h<;>first|(cases h;done)|(simp only[ai]at h;subst h;rfl)
theorem Lq {z:List AV} (h:jT P t=some z): ∀y∈z,y.one=true:=by
 unfold jT at h;simp only[Option.bind_eq_bind,bu]at h;obtain⟨i,hi,v,hv,h⟩:=h
 split at h
 ·obtain⟨h1,h2⟩:=cC h;intro y hy;obtain⟨k,hk,rfl⟩:=iv hy;exact Qm (h2 k _ _ (bG (by omega)) (bG hk))
 ·cases h
theorem Ap {z:List AV} (h:bC (AR C) z v.cells.toList) (n:Nat):bC (AR C) (List.replicate n z).flatten (Builtin.zeroCells v.cells n).toList:=by
 have hl:z.length=v.cells.size:=by simpa using h.1
 refine⟨by simp[Builtin.zeroCells,hl],fun k x u hx hu=> ?_⟩
 have hk:k<n*z.length:=by have:=(cv.1 hx).1;simpa using this
 have hpos:0<z.length:=by
  rcases kQ z.length with e|e
  ·rw[e]at hk;omega
  ·exact e
 rw[mw z _ _ hk]at hx;have hm:k%z.length<v.cells.size:=by rw[hl]at hpos⊢;exact aL _ hpos
 refine h.2 (k%z.length) x u hx ?_;rw[hl]at hk;simp only[Builtin.zeroCells,Du,Array.toList_range,gY,tJ hk,Option.map_some,ai]at hu;rw[<-hu,<-hl];simp[hm]
theorem Vc (h:HR C hf wr w) (ht:P.underlying t=some (.slice e)) {z:List AV} (hz:jT P e=some z)
  {n ver o len:Nat} (hx:AR C (.rs n ver o len z.length) x) {ob:aC} (hn:hf n=some ob) (hver:ob.ver=ver) (hlen':o+len*z.length<=ob.cells.length):
  dI P C hf wr base nm (vS (Builtin.clear_ #[t] ty #[x])) w (.v (.tup [])) [(n,some ⟨ob.ver,ob.cells.take o++(List.replicate len z).flatten++ob.cells.drop (o+len*z.length),ob.gr,ob.el⟩)]:=by
 obtain⟨zv,hzv,hrz,hzs⟩:=og (C:=C) hz;have hry:=Ap hrz len;have hyl:((List.replicate len z).flatten).length=len*z.length:=by simp
 have hone: ∀y∈(List.replicate len z).flatten,y.one=true:=by
  intro y hy;obtain⟨l,hl,hy⟩:=List.mem_flatten.1 hy;rw[(List.mem_replicate.1 hl).2]at hy;exact Lq hz y hy
 have hnews:=yP hry hone;have hcur:=(h.live n ob hn).2;have hm:=NC hx;obtain⟨cs,el,g1,g2,g3,g4,g5⟩:=h.obj n ob hn hm;subst hver
 cases hx with
 |rs _ _ _ _ _ b o' cap _ _ hcap ho hx=>
  obtain⟨-,hx2⟩:=hx _ hcur;obtain⟨rfl,hsz⟩:=hx2 rfl;generalize hN:(Builtin.zeroCells zv.cells len).toList=news at hry hnews;have hnl:news.length=len*z.length:=by rw[<-hry.1,hyl]
  let cs':Array Value:=(cs.toList.take o++news++cs.toList.drop (o+news.length)).toArray
  have hsz':cs'.size=cs.size:=by simp[cs'];omega
  obtain⟨k1,k2⟩:=setRow_heap (cs':=cs') g1;have hrun:(Builtin.clear_ #[t] ty #[.slice (some ⟨C.mu n,o',none⟩) len cap]).run P w= .ok (.tuple #[]) (w.setRow (C.mu n) cs'):=by
   rcases kQ len with e|e
   ·subst e;have hn0:news=[]:=kD (by simpa using hnl)
    have e:cs'=cs:=by apply fo;simp[cs',hn0]
    rw[e,setRow_self w _ cs el (0,0) g1];simp[Builtin.clear_,run_underlying ht]
   ·have ho':o'=o:=by
     rcases ho with h|h
     ·omega
     ·exact h
    subst ho';have:=run_storeCells_at P (C.mu n) o' el news 0 cs w g1 (by rw[hnl];omega) hnews
    simp only[Nat.add_zero]at this;obtain⟨m,rfl⟩: ∃m,len=m+1:=⟨len-1,by omega⟩
    simp only[Builtin.clear_,bT,run_underlying ht,Result.andThen,hzv,hN];simp[run_underlying ht,hzv,hN,this,cs']
  refine⟨.tuple #[],w.setRow (C.mu n) cs',C.bump nm n ob.ver, .inl (by simp only[vS,bT,hrun,Result.andThen,Sem.run_pure]), .v (.tup [] [] rfl fun k x v hx=>by simp at hx),?_,Cx.mV nm hcur (aB _),fun _=>iN,Wf.setRow _ (h.wr n ob hn),fun _ _=>rfl, .one (.inr (.inl ⟨_,hn,rfl⟩)) fun _ _=>rfl⟩
  rw[ia];refine h.write nm hn (aB _) _ ob.gr cs' el ob.el (.inr rfl) ⟨_,g1⟩ k1 (by rw[hsz',g2]) ?_ ?_ (fun b _ hb=>k2 b hb) ?_
  ·rw[hsz'];simp only[bU,da,lJ,hyl];omega
  ·intro hg;have:=g4 hg;rw[hsz'];simp only[bU,da,lJ,hyl];omega
  ·intro j x v hx hv;have hv':(cs.toList.take o++news++cs.toList.drop (o+news.length))[j]?=some v:=by simpa[cs']using hv
   have hsp:=rL (C:=C) (cells:=ob.cells) (cs:=cs.toList) (fun k x v hx hv=>g5 k x v hx (by simpa using hv)) hry (o:=o) (by omega) (by simpa using g3) (by rw[hyl];simp;omega)
   exact hsp j x v (by rw[hyl];exact hx) hv'
theorem Vq (h:HR C hf wr w) {vx:AV} (hx:AR C vx x) {ao:AO}
  (ha:PG vx=some ao) {s:Sem Next} (hs1: ∀q,x= .pointer (some q)->s=pure (.value x)) (hs2: ∀f a c,x= .func (.func f) a c->s=pure (.value x)):dI P C hf wr base nm s w ao.v ao.up:=by
 unfold PG at ha
 replace hx:=hx.nz
 generalize vx.nz=vx at hx ha
 split at ha<;>simp only[cM,ai,reduceCtorEq]at ha<;>subst ha
 ·skip
  exact .CU h (by cases hx with|p _ _ _ b=>rw[hs1 _ rfl];rfl) hx
 ·skip
  exact .CU h (by cases hx with|pp=>rw[hs1 _ rfl];rfl) hx
 ·skip
  exact .CU h (by cases hx with|v hx=>cases hx with|fn=>rw[hs2 _ _ _ rfl];rfl) hx
 ·skip
  exact .CU h (by cases hx with|fn=>rw[hs2 _ _ _ rfl];rfl) hx
theorem dV [ct P] {a:Act} {o:Option Operand} {x:Option SX} (h:zI P o=some x) (ht:TM P C tf a):OR C (x.map (SX.ev tf)) (o.map a.eval):=by
 cases o with
 |none=>simp[zI]at h;subst h;exact .none
 |some o=>
  simp only[zI,dM]at h;obtain⟨y,hy,rfl⟩:=h;exact .some (bO hy ht)
theorem TL [ct P] {o:Oper} {so:SO} {a:Act} (hc:rm P o=some so) {ao:AO} (ha:fe nm so tf hf=some ao) (hp:ao.pre) (h:HR C hf wr w) (ht:TM P C tf a)
  (hnm: ¬C.al nm) (hwr: ∀b,base<=b->wr b) (hbase:base<=w.heap.size):dI P C hf wr base nm (execOp a.eval o) w ao.v ao.up:=by
 unfold rm at hc
 split at hc
 case h_1 x ho=>
  simp only[Option.bind_eq_bind,bu,ai]at hc;obtain⟨x',hx,rfl⟩:=hc;simp only[fe,cM,ai]at ha;subst ha;rw[show execOp a.eval o=pure (.value (a.eval x))from by simp only[execOp,ho]]
  exact .CU h rfl (bO hx ht)
 case h_2 x ho=>
  simp only[Option.bind_eq_bind,bu,ai]at hc;obtain⟨x',hx,rfl⟩:=hc;simp only[fe,cM,ai]at ha;subst ha;rw[show execOp a.eval o=pure (.value (a.eval x))from by simp only[execOp,ho]]
  exact .CU h rfl (bO hx ht)
 case h_3 c x y ho=>
  simp only[Option.bind_eq_bind,bu,ai]at hc;obtain⟨c',hc',x',hx,y',hy,rfl⟩:=hc;simp only[fe]at ha;have hcv:=bO hc' ht
  split at ha<;>simp only[cM,ai,reduceCtorEq]at ha<;>subst ha
  ·rename_i hb;rw[hb]at hcv;exact .CU h (val:=a.eval x) (by simp[execOp,ho,yp hcv,asBool]) (bO hx ht)
  ·rename_i hb;rw[hb]at hcv;exact .CU h (val:=a.eval y) (by simp[execOp,ho,yp hcv,asBool]) (bO hy ht)
 case h_4 t ho=>
  simp only[Option.bind_eq_bind,bu,ai]at hc;obtain⟨z,hz,rfl⟩:=hc;simp only[fe,ai]at ha;subst ha;rw[show execOp a.eval o=vS (Instr.alloc t true (.tuple #[]))from by simp only[execOp,ho];rfl]
  exact NK h hnm hwr hbase hz
 case h_5 t x ho=>
  simp only[Option.bind_eq_bind,bu,ai]at hc;obtain⟨x',hx,rfl⟩:=hc;simp only[fe,ai]at ha;subst ha;rw[show execOp a.eval o=vS (Instr.box t (a.eval x))from by simp only[execOp,ho];rfl]
  exact Vb h hnm hwr hbase t (bO hx ht) hp
 case h_6 t ps ho=>
  rw[show execOp a.eval o=vS (Instr.build t (ps.map fun(i,x)=>(i,a.eval x)))from by simp only[execOp,ho];rfl]
  split at hc
  ·rename_i fs hfs;simp only[Option.bind_eq_bind,bu,ai]at hc
   split at hc
   ·rename_i hall;simp only[bu,ai]at hc;obtain⟨z,hz,qs,hqs,rfl⟩:=hc;simp only[fe]at ha
    split at ha
    ·rename_i cs p hfill;simp only[ai]at ha;subst ha;exact vZ h hfs hall hz hqs ht hfill hp
    ·cases ha
   ·cases hc
  ·rename_i cnt e hfs;simp only[Option.bind_eq_bind,bu,ai]at hc;obtain⟨sz,hsz,z,hz,qs,hqs,rfl⟩:=hc;simp only[fe]at ha
   split at ha
   ·rename_i cs p hfill;simp only[ai]at ha;subst ha;exact yX h hfs hsz hz hqs ht hfill hp
   ·cases ha
  ·cases hc
 case h_7 t n ps ho=>
  rw[show execOp a.eval o=vS (Instr.buildSlice t n (ps.map fun(i,x)=>(i,a.eval x)))from by simp only[execOp,ho];rfl]
  split at hc
  ·rename_i e he;simp only[Option.bind_eq_bind,bu,ai]at hc;obtain⟨z,hz,ze,hze,xs,hxs,hc⟩:=hc
   split at hc
   ·rename_i hcond;obtain⟨hrange,hsz,hpos⟩:=hcond;simp only[ai]at hc;subst hc;have hrel:=CP hxs ht;have hps:(ps.map fun(i,x)=>(i,a.eval x)).toList.map (·.1)=List.range n:=by
     rw[<-hrange];simp
    have hrel':bC (AR C) (xs.map (SX.ev tf)) ((ps.map fun(i,x)=>(i,a.eval x)).toList.map (·.2)):=by
     have e:(ps.map fun(i,x)=>(i,a.eval x)).toList.map (·.2)=(ps.toList.map (·.2)).map a.eval:=by simp
     rw[e];exact hrel
    have hlen:xs.length=n:=by
     have h1:=hrel'.1;have h2:=congrArg List.length hps;simp only[aR,wQ]at h1 h2;omega
    simp only[fe]at ha
    split at ha
    ·rename_i ys hys;simp only[ai]at ha;subst ha;exact ET h hbase he hz hze hsz hps hrel' hys hp
    ·simp only[ai]at ha;subst ha;rw[<-hlen]at hsz hps⊢;exact GJ h hnm hwr hbase he hz hze hsz hps hrel' hp
   ·cases hc
  ·cases hc
 case h_8 t x ho=>
  simp only[Option.bind_eq_bind,bu,ai]at hc;obtain⟨ag,hag,z,hz,hc⟩:=hc
  split at hc
  ·rename_i h1;simp only[bu,ai]at hc;obtain⟨x',hx,rfl⟩:=hc;rw[show execOp a.eval o=vS (Instr.loadAt t (a.eval x))from by simp only[execOp,ho];rfl]
   exact XK h hag hz (by simpa using h1) (bO hx ht) ha hp
  ·cases hc
 case h_9 t x y ho=>
  simp only[Option.bind_eq_bind,bu,ai]at hc;obtain⟨z,hz,x',hx,y',hy,rfl⟩:=hc;rw[show execOp a.eval o=(do Instr.storeAt t (a.eval x) (a.eval y);pure .skip)from by simp only[execOp,ho]]
  simp only[fe]at ha;have hxv:=bO hx ht
  split at ha
  ·rename_i n ver q hb;rw[hb]at hxv
   split at ha
   ·rename_i ob hn;simp only[ai]at ha;subst ha;obtain⟨p1,p2,p3,p4⟩:=hp;exact XL h hz hxv hn p1 p2 (bO hy ht) p3 p4
   ·cases ha
  ·cases ha
 case h_10 op t x y t2 ho=>
  rw[show execOp a.eval o=vS (do eqGuard op t x y (a.eval x) (a.eval y);binOp op t (a.eval x) (a.eval y))from by simp only[execOp,ho];rfl]
  split at hc
  ·simp only[Option.bind_eq_bind,bu,ai]at hc;obtain⟨x',hx,y',hy,rfl⟩:=hc;exact NM h x y (bO hx ht) (bO hy ht) ha hp
  ·simp only[Option.bind_eq_bind,bu,ai]at hc;obtain⟨x',hx,y',hy,rfl⟩:=hc;exact NM h x y (bO hx ht) (bO hy ht) ha hp
  ·rename_i hb
   split at hc
   all_goals first|(cases hc;done)|skip
   all_goals
    simp only[Option.bind_eq_bind,bu,ai]at hc;obtain⟨x',hx,y',hy,rfl⟩:=hc;simp only[fe]at ha;have hxv:=bO hx ht;have hyv:=bO hy ht
    split at ha
    ·rename_i p q e1 e2;rw[e1]at hxv;rw[e2]at hyv;simp only[cM,ai]at ha;subst ha
     first
      |exact NL (ng:=false) h x y hb hxv hyv
      |exact NL (ng:=true) h x y hb hxv hyv
    ·cases ha
  ·rename_i te hte
   split at hc
   ·rename_i hinfo;obtain⟨j,hj⟩:=tU.1 hinfo
    split at hc
    all_goals first|(cases hc;done)|skip
    all_goals
     simp only[Option.bind_eq_bind,bu,ai]at hc;obtain⟨x',hx,y',hy,rfl⟩:=hc;simp only[fe]at ha
     first
      |exact NQ (ng:=false) h x y hte hj (bO hx ht) (bO hy ht) ha hp
      |exact NQ (ng:=true) h x y hte hj (bO hx ht) (bO hy ht) ha hp
   ·cases hc
  ·rename_i fs hu
   split at hc
   all_goals first|(cases hc;done)|skip
   all_goals
    rename_i q hq;have hk:=ct.plOk (P:=P) q (List.mem_of_find?_eq_some hq);have hqt:=List.find?_some hq;simp only[dZ]at hqt;rw[hqt]at hk;simp only[Option.bind_eq_bind,bu,ai]at hc;obtain⟨x',hx,y',hy,rfl⟩:=hc;simp only[fe]at ha;have hxv:=bO hx ht;have hyv:=bO hy ht
    split at ha
    ·rename_i l m e1 e2;rw[e1]at hxv;rw[e2]at hyv
     split at ha
     ·rename_i r hr;simp only[cM,ai]at ha;subst ha
      first
       |exact NN (ng:=false) h x y hu hk hr hxv hyv
       |exact NN (ng:=true) h x y hu hk hr hxv hyv
     ·cases ha
    ·cases ha
  ·rename_i te hte
   split at hc
   ·simp only[Option.bind_eq_bind,bu,ai]at hc;obtain⟨x',hx,rfl⟩:=hc;exact NR (ng:=false) h x _ hte (bO hx ht) ha
   ·simp only[Option.bind_eq_bind,bu,ai]at hc;obtain⟨x',hx,rfl⟩:=hc;exact NR (ng:=true) h x _ hte (bO hx ht) ha
   ·cases hc
  ·cases hc
 case h_11 op t x ho=>
  simp only[Option.bind_eq_bind,bu,ai]at hc;obtain⟨x',hx,rfl⟩:=hc;rw[show execOp a.eval o=vS (Op.unary op (a.eval x))from by simp only[execOp,ho];rfl]
  exact XM h (bO hx ht) ha
 case h_12 s d x ho=>
  rw[show execOp a.eval o=vS (convert s d (a.eval x))from by simp only[execOp,ho];rfl]
  split at hc
  ·rename_i ks k hs hd;simp only[Option.bind_eq_bind,bu,ai]at hc;obtain⟨x',hx,rfl⟩:=hc;simp only[fe]at ha;have hxv:=bO hx ht
   split at ha
   ·rename_i k' n e1;rw[e1]at hxv;simp only[cM,ai]at ha;subst ha;exact Ve h hs hd hxv
   ·cases ha
  ·rename_i hs hd;simp only[Option.bind_eq_bind,bu,ai]at hc;obtain⟨x',hx,rfl⟩:=hc;simp only[fe]at ha;have hxv:=bO hx ht
   split at ha
   ·rename_i l e1;rw[e1]at hxv;simp only[cM,ai]at ha;subst ha;exact Vf h hs hd hxv
   ·cases ha
  ·rename_i e hs hd
   split at hc
   ·rename_i he;simp only[Option.bind_eq_bind,bu,ai]at hc;obtain⟨z,hz,hc⟩:=hc
    split at hc
    ·simp only[bu,ai]at hc;obtain⟨x',hx,rfl⟩:=hc;simp only[fe]at ha;have hxv:=bO hx ht
     split at ha
     ·rename_i l e1;rw[e1]at hxv;simp only[dm,ai]at ha;subst ha;generalize a.eval x=xx at*
      cases hxv with
      |v hxv=>
       have hxv':=hxv
       cases hxv with
       |sl0=>exact kY h hs he hd hxv' hp
       |sl=>exact kY h hs he hd hxv' hp
       |sle=>exact kY h hs he hd hxv' hp
     ·rename_i l e1;rw[e1]at hxv;simp only[dm,ai]at ha;subst ha;generalize a.eval x=xx at*
      cases hxv with
      |fs _ _ hxv=>exact kY h hs he hd hxv hp
     ·rename_i e1;rw[e1]at hxv;simp only[cM,ai]at ha;subst ha;generalize a.eval x=xx at*;cases hxv;exact kY (l:=[]) h hs he hd .sl0 (by simp)
     ·rename_i n ver q len z' e1;rw[e1]at hxv
      split at ha
      ·rename_i ob hn;simp only[ai]at ha;subst ha;obtain⟨p1,p2,p3,p4⟩:=hp;exact Ks h hs he hd hxv hn p1 p3 p4
      ·cases ha
     ·cases ha
    ·cases hc
   ·cases hc
  ·split at hc
   ·simp only[Option.bind_eq_bind,bu,ai]at hc;obtain⟨x',hx,rfl⟩:=hc;simp only[fe]at ha;have hxv:=bO hx ht
    split at ha
    ·rename_i l e1;rw[e1]at hxv;simp only[cM,ai]at ha;subst ha;exact Vr h hbase (by assumption) (by assumption) (by assumption) hxv
    ·cases ha
   ·cases hc
  ·rename_i t0 hs hd;simp only[Option.bind_eq_bind,bu]at hc;obtain⟨z,hz,hc⟩:=hc
   split at hc
   ·cases hc
   ·rename_i hz0;simp only[bu,ai]at hc;obtain⟨x',hx,rfl⟩:=hc;simp only[fe]at ha;simp only[cJ,dM]at hz;obtain⟨i,hi,rfl⟩:=hz;exact NP h (bO hx ht) (fun b o T n hsh ho _=>Lib.run_to_unsafe w ⟨b,o,none⟩ hs hd hi hz0 hsh ho) ha hp
  ·rename_i u0 hs hd;simp only[Option.bind_eq_bind,bu]at hc;obtain⟨z,hz,hc⟩:=hc
   split at hc
   ·cases hc
   ·rename_i hz0;simp only[bu,ai]at hc;obtain⟨x',hx,rfl⟩:=hc;simp only[fe]at ha;simp only[cJ,dM]at hz;obtain⟨i,hi,rfl⟩:=hz;exact NP h (bO hx ht) (fun b o T n hsh ho hl=>Lib.run_from_unsafe w ⟨b,o,none⟩ hs hd hi hsh hl) ha hp
  ·cases hc
 case h_13 t l c ho=>
  rw[show execOp a.eval o=vS (Instr.makeSlice t (a.eval l) (a.eval c))from by simp only[execOp,ho];rfl]
  split at hc
  ·rename_i e he;simp only[Option.bind_eq_bind,bu,ai]at hc;obtain⟨i,hi,z,hz,hc⟩:=hc
   split at hc
   ·rename_i hpos;simp only[bu,ai]at hc;obtain⟨l',hl,c',hc',rfl⟩:=hc;simp only[fe]at ha;have hlv:=bO hl ht;have hcv:=bO hc' ht
    split at ha
    ·rename_i kl ll kc cc e1 e2;rw[e1]at hlv;rw[e2]at hcv;simp only[ai]at ha;subst ha;obtain⟨p1,p2,p3,p4⟩:=hp;exact Vp h hnm hwr hbase he hi hz hpos.1 hlv hcv p1 p2 p3 p4
    ·cases ha
   ·cases hc
  ·cases hc
 case h_14 t x lo hi mx ho=>
  rw[show execOp a.eval o=vS (Instr.sliceAt t (a.eval x) (lo.map a.eval) (hi.map a.eval) (mx.map a.eval))from by simp only[execOp,ho];rfl]
  split at hc
  ·rename_i hu
   split at hc
   ·simp only[Option.bind_eq_bind,bu,ai]at hc;obtain⟨x',hx,lo',hlo,hi',hhi,rfl⟩:=hc;simp only[fe]at ha;have hxv:=bO hx ht
    split at ha
    ·rename_i b e1;rw[e1]at hxv
     split at ha
     ·rename_i l hh p e2;simp only[dm,ai]at ha;subst ha;exact Vu h hu hxv (dV hlo ht) (dV hhi ht) e2 hp
     ·cases ha
    ·cases ha
   ·cases hc
  ·rename_i e hu;simp only[Option.bind_eq_bind,bu,ai]at hc;obtain⟨z,hz,x',hx,lo',hlo,hi',hhi,mx',hmx,rfl⟩:=hc;simp only[fe]at ha;have hxv:=bO hx ht
   split at ha
   ·rename_i l e1;rw[e1]at hxv;have hmx0:mx=none:=by cases mx with|none=>rfl|some m=>simp[zI]at hmx
    subst hmx0
    split at ha
    ·rename_i lo2 hh p e2;simp only[dm,ai]at ha;subst ha;generalize a.eval x=xx at*
     cases hxv with
     |v hxv=>
      have hxv':=hxv
      cases hxv with
      |sl0=>exact CA h hu hz hxv' (dV hlo ht) (dV hhi ht) e2 hp.1 hp.2
      |sl=>exact CA h hu hz hxv' (dV hlo ht) (dV hhi ht) e2 hp.1 hp.2
      |sle=>exact CA h hu hz hxv' (dV hlo ht) (dV hhi ht) e2 hp.1 hp.2
    ·cases ha
   ·rename_i l e1;rw[e1]at hxv;have hmx0:mx=none:=by cases mx with|none=>rfl|some m=>simp[zI]at hmx
    subst hmx0
    split at ha
    ·rename_i lo2 hh p e2;simp only[dm,ai]at ha;subst ha;generalize a.eval x=xx at*
     cases hxv with
     |fs _ _ hxv=>exact CA h hu hz hxv (dV hlo ht) (dV hhi ht) e2 hp.1 hp.2
    ·cases ha
   ·rename_i n ver q len z' e1;rw[e1]at hxv;have hmx0:mx=none:=by cases mx with|none=>rfl|some m=>simp[zI]at hmx
    subst hmx0
    split at ha
    ·rename_i lo2 hh p e2;simp only[dm,ai]at ha;subst ha;obtain⟨p1,rfl⟩:=hp;exact Vt h hu hz hxv (dV hlo ht) (dV hhi ht) e2 p1
    ·cases ha
   ·rename_i l m e1;rw[e1]at hxv
    split at ha
    ·rename_i lo2 hh p kh hi2 km mx2 e2 e3 e4;simp only[dm,ai]at ha;subst ha;obtain⟨p1,p2,p3⟩:=hp;have hhv:=dV (a:=a) (C:=C) (tf:=tf) hhi ht;have hmv:=dV (a:=a) (C:=C) (tf:=tf) hmx ht;rw[e3]at hhv e2;simp only[Option.map_some,e4]at hmv;generalize hhe:hi.map a.eval=hv at*;generalize hme:mx.map a.eval=mv at*
     cases hhv with|some hhv=> ?_
     cases hmv with|some hmv=> ?_
     have i1:=fJ hhv;subst i1;have i2:=fJ hmv;subst i2;generalize a.eval x=xx at*
     cases hxv with
     |v hxv=>
      have hxv':=hxv
      cases hxv with
      |sl0=>exact yZ h hu hz hxv' (dV hlo ht) e2 p1 p2 p3
      |sl=>exact yZ h hu hz hxv' (dV hlo ht) e2 p1 p2 p3
      |sle=>exact yZ h hu hz hxv' (dV hlo ht) e2 p1 p2 p3
    ·cases ha
   ·rename_i l m e1;rw[e1]at hxv
    split at ha
    ·rename_i lo2 hh p kh hi2 km mx2 e2 e3 e4;simp only[dm,ai]at ha;subst ha;have hhv:=dV (a:=a) (C:=C) (tf:=tf) hhi ht;have hmv:=dV (a:=a) (C:=C) (tf:=tf) hmx ht;rw[e3]at hhv e2;simp only[Option.map_some,e4]at hmv;generalize hhe:hi.map a.eval=hv at*;generalize hme:mx.map a.eval=mv at*
     cases hhv with|some hhv=> ?_
     cases hmv with|some hmv=> ?_
     have i1:=fJ hhv;subst i1;have i2:=fJ hmv;subst i2;obtain⟨p1,p2,p3⟩:=hp;generalize a.eval x=xx at*
     cases hxv with
     |fs _ _ hxv=>exact yZ h hu hz hxv (dV hlo ht) e2 p1 p2 p3
    ·cases ha
   ·rename_i m e1;rw[e1]at hxv
    split at ha
    ·rename_i lo2 hh p kh hi2 km mx2 e2 e3 e4;simp only[dm,ai]at ha;subst ha;have hhv:=dV (a:=a) (C:=C) (tf:=tf) hhi ht;have hmv:=dV (a:=a) (C:=C) (tf:=tf) hmx ht;rw[e3]at hhv e2;simp only[Option.map_some,e4]at hmv;generalize hhe:hi.map a.eval=hv at*;generalize hme:mx.map a.eval=mv at*
     cases hhv with|some hhv=> ?_
     cases hmv with|some hmv=> ?_
     have i1:=fJ hhv;subst i1;have i2:=fJ hmv;subst i2;obtain⟨p1,p2⟩:=hp;generalize a.eval x=xx at*;cases hxv;have h9:=yZ (ls:=[]) (base:=base) (nm:=nm) (km:=km) h hu hz (PR.sl0) (dV hlo ht) e2 p1 p2 (by simp)
     simpa only[List.take_nil,List.drop_nil]using h9
    ·cases ha
   ·rename_i n ver q len z' m e1;rw[e1]at hxv
    split at ha
    ·rename_i lo2 hh p kh hi2 km mx2 e2 e3 e4;simp only[dm,ai]at ha;subst ha;have hhv:=dV (a:=a) (C:=C) (tf:=tf) hhi ht;have hmv:=dV (a:=a) (C:=C) (tf:=tf) hmx ht;rw[e3]at hhv e2;simp only[Option.map_some,e4]at hmv;generalize hhe:hi.map a.eval=hv at*;generalize hme:mx.map a.eval=mv at*
     cases hhv with|some hhv=> ?_
     cases hmv with|some hmv=> ?_
     have i1:=fJ hhv;subst i1;have i2:=fJ hmv;subst i2;obtain⟨p1,p2,rfl⟩:=hp;exact Rf h hu hz hxv (dV hlo ht) e2 p1 p2
    ·cases ha
   ·cases ha
  ·rename_i n e hu;simp only[Option.bind_eq_bind,bu,ai]at hc;obtain⟨z,hz,x',hx,lo',hlo,hi',hhi,mx',hmx,rfl⟩:=hc;simp only[fe]at ha;have hxv:=bO hx ht
   split at ha
   ·rename_i m ver q e1;rw[e1]at hxv;have hmx0:mx=none:=by cases mx with|none=>rfl|some m=>simp[zI]at hmx
    subst hmx0
    split at ha
    ·rename_i ob l2 hh p hn e2;simp only[ai]at ha;subst ha;obtain⟨p1,p2,p3⟩:=hp;exact Vs h hu hz hxv hn p2 p3 (dV hlo ht) (dV hhi ht) e2 p1
    ·cases ha
   ·cases ha
  ·cases hc
 case h_15 s x f ho=>
  rw[show execOp a.eval o=vS (Instr.fieldAt s (a.eval x) f)from by simp only[execOp,ho];rfl]
  split at hc
  ·rename_i fs hs;simp only[Option.bind_eq_bind,bu,ai]at hc;obtain⟨fl,hfl,z,hz,hc⟩:=hc
   split at hc
   ·cases hc
   ·rename_i h0;simp only[bu,ai]at hc;obtain⟨x',hx,rfl⟩:=hc;exact Vh h hs hfl hz h0 (bO hx ht) ha
  ·cases hc
 case h_16 s x f ho=>
  rw[show execOp a.eval o=vS (Instr.field s (a.eval x) f)from by simp only[execOp,ho];rfl]
  split at hc
  ·rename_i fs hs;simp only[Option.bind_eq_bind,bu,ai]at hc;obtain⟨fl,hfl,z,hz,ag,hag,hc⟩:=hc
   split at hc
   ·rename_i h1;simp only[bu,ai]at hc;obtain⟨x',hx,rfl⟩:=hc;simp only[fe,dm,ai]at ha;subst ha;exact Vi h hs hfl hag hz (by simpa using h1) (bO hx ht) hp.1 hp.2
   ·cases hc
  ·cases hc
 case h_17 t x i ho=>
  rw[show execOp a.eval o=vS (Instr.indexAt t (a.eval x) (a.eval i))from by simp only[execOp,ho];rfl]
  split at hc
  ·rename_i e hu;simp only[Option.bind_eq_bind,bu,ai]at hc;obtain⟨z,hz,x',hx,i',hi,rfl⟩:=hc;exact Vm h hu hz (bO hx ht) (bO hi ht) ha hp
  ·rename_i n e hu;simp only[Option.bind_eq_bind,bu,ai]at hc;obtain⟨z,hz,x',hx,i',hi,rfl⟩:=hc;exact Vl h hu hz (bO hx ht) (bO hi ht) ha hp
  ·cases hc
 case h_18 t x i ho=>
  rw[show execOp a.eval o=vS (Instr.index t (a.eval x) (a.eval i))from by simp only[execOp,ho];rfl]
  split at hc
  ·rename_i hu;simp only[Option.bind_eq_bind,bu,ai]at hc;obtain⟨x',hx,i',hi,rfl⟩:=hc;simp only[fe]at ha;have hxv:=bO hx ht;have hiv:=bO hi ht
   split at ha
   ·rename_i l k n e1 e2;rw[e1]at hxv;rw[e2]at hiv;simp only[dm,ai]at ha;subst ha;exact Vj h hu hxv hiv hp.1 hp.2
   ·cases ha
  ·rename_i n e hu;simp only[Option.bind_eq_bind,bu,ai]at hc;obtain⟨z,hz,ag,hag,hc⟩:=hc
   split at hc
   ·rename_i h1;simp only[bu,ai]at hc;obtain⟨x',hx,i',hi,rfl⟩:=hc;simp only[fe]at ha;have hxv:=bO hx ht;have hiv:=bO hi ht
    split at ha
    ·rename_i k j e2;rw[e2]at hiv;simp only[dm,ai]at ha;subst ha;obtain⟨p1,p2,p3,p4⟩:=hp;exact Vk h hu hag hz (by simpa using h1) hxv p1 hiv p2 p3 p4
    ·cases ha
   ·cases hc
  ·cases hc
 case h_19 x k ho=>
  simp only[Option.bind_eq_bind,bu,ai]at hc;obtain⟨x',hx,rfl⟩:=hc;rw[show execOp a.eval o=vS (Instr.extract (a.eval x) k)from by simp only[execOp,ho];rfl]
  exact Vg h (bO hx ht) ha hp
 case h_20 c ho=>
  unfold x6 at hc
  split at hc
  ·simp only[Option.bind_eq_bind,bu,ai]at hc;obtain⟨f',hf',as,has,rfl⟩:=hc;simp[fe]at ha
  ·rename_i b hb;obtain⟨K,run⟩: ∃K,execOp a.eval o=builtin b c.argTypes o.type K (c.args.map a.eval):=⟨c.args.map fun| .const _=>true| _=>false,by simp only[execOp,ho,resolve,hb];rfl⟩
   split at hc
   ·
    rename_i x t hargs htys;have ea:c.args= #[x]:=by apply fo;simpa using hargs
    have et:c.argTypes= #[t]:=by apply fo;simpa using htys
    rw[run,ea,et,show(#[x]:Array Operand).map a.eval= #[a.eval x]from by simp]
    rw[show(builtin .len #[t] o.type K #[a.eval x])=vS (Builtin.len_ #[t] o.type #[a.eval x])from rfl]
    split at hc
    ·rename_i hu;simp only[Option.bind_eq_bind,bu,ai]at hc;obtain⟨x',hx,rfl⟩:=hc;simp only[fe]at ha;have hxv:=bO hx ht
     split at ha
     ·rename_i l e1;rw[e1]at hxv;simp only[cM,ai]at ha;subst ha;exact Rb h hu hxv
     ·cases ha
    ·rename_i e hu;simp only[Option.bind_eq_bind,bu,ai]at hc;obtain⟨x',hx,rfl⟩:=hc;simp only[fe]at ha;have hxv:=bO hx ht
     split at ha
     ·rename_i n e1;simp only[cM,ai]at ha;subst ha;exact Vn h hu hxv e1
     ·cases ha
    ·rename_i n e hu;simp only[ai]at hc;subst hc;simp only[fe,cM,ai]at ha;subst ha;exact .val h (val:= .int .i64 n) (by simp[Builtin.len_,run_underlying hu,goInt]) (.v (.i _ _))
    ·cases hc
   ·
    rename_i x y t u hargs htys;have ea:c.args= #[x,y]:=by apply fo;simpa using hargs
    have et:c.argTypes= #[t,u]:=by apply fo;simpa using htys
    rw[run,ea,et,show(#[x,y]:Array Operand).map a.eval= #[a.eval x,a.eval y]from by simp]
    rw[show(builtin .append #[t,u] o.type K #[a.eval x,a.eval y])=vS (Builtin.append_ #[t,u] o.type #[a.eval x,a.eval y])from rfl]
    have key: ∀(e:TypeId) (i:TypeInfo) (z:Value) (x' y':SX),P.underlying t=some (.slice e)->P.info? e=some i->i.zero=some z->z.cells.size=i.size->0<i.size->(P.underlying u=some .string\/ ∃e',P.underlying u=some (.slice e'))->sx P x=some x'->sx P y=some y'->
      fe nm (.app e i.size i.bytes x' y') tf hf=some ao->dI P C hf wr base nm (vS (Builtin.append_ #[t,u] o.type #[a.eval x,a.eval y])) w ao.v ao.up:=by
     intro e i z x' y' hte hi hz hzs hpos hu hx hy ha;have hxv:=bO hx ht;have hyv:=bO hy ht;simp only[fe]at ha
     split at ha
     ·rename_i ys k p r hsrc
      split at ha
      ·rename_i e1;rw[e1]at hxv;generalize a.eval x=xx at*;cases hxv
       by_cases hk:k=0
       ·rw[ah hk,ai]at ha;subst ha;obtain⟨news,hlen,hfc,hry,hyl⟩:=rN (P:=P) h hyv hsrc hp;have hf0:=hfc w 0 rfl (by omega)
        refine .val h (val:= .slice none 0 0) ?_ .sn;subst hk;rcases hu with hu|⟨e',hu⟩<;>simp[Builtin.append_,run_underlying hte,run_underlying hu,sizeOf,typeInfo,hi,hlen,hf0]
       ·rw[af hk,ai]at ha;subst ha;obtain⟨p1,p2,p3,p4⟩:=hp;have:=yV (ty:=o.type) h hnm hwr hbase hte hi hz hzs hu hyv hsrc p1 (q:=none) (len:=0) (cells:=[]) (olds:=[]) (fun w' _=>by simp[Builtin.firstCells]) .nil (by simp) hk (by simpa using p3) (by simpa using p4)
        simpa using this
      ·rename_i l e1;rw[e1]at hxv;generalize a.eval x=xx at*
       cases hxv with
       |fs _ q hxv=>
        by_cases hk:k=0
        ·rw[ah hk,ai]at ha;subst ha;obtain⟨news,hlen,hfc,hry,hyl⟩:=rN (P:=P) h hyv hsrc hp;have hf0:=hfc w 0 rfl (by omega)
         refine .val h (val:= .slice q l.length l.length) ?_ (.fs l q hxv);subst hk
         cases q<;>rcases hu with hu|⟨e',hu⟩<;>simp[Builtin.append_,run_underlying hte,run_underlying hu,sizeOf,typeInfo,hi,hlen,hf0,storeCells]
        ·rw[af hk,ai]at ha;subst ha;obtain⟨p1,p2,p3,p4,p5⟩:=hp;obtain⟨olds,ho1,ho2,ho3,ho4⟩:=rN (P:=P) (z:=i.size) h (.v hxv) (ys:=(l.flatMap PV.cells).map .v) (k:=l.length) (r:=[]) rfl p3;exact yV (ty:=o.type) h hnm hwr hbase hte hi hz hzs hu hyv hsrc p1 (q:=q) (len:=l.length) (fun w' hw=>by
          have:=ho2 w' l.length hw (aB _);rw[dc (by rw[<-ho3.1,ho4];exact aB _)]at this
          exact this) ho3 ho4 hk p4 p5
      ·rename_i n ver q len z' e1;rw[e1]at hxv
       split at ha
       ·rename_i ob hn;rw[ai]at ha;subst ha;obtain⟨p1,p2,p3,rfl,rfl,p6,p7,p8⟩:=hp;exact Kr (ty:=o.type) h hwr hbase hte hi hz hzs hpos hu hyv hsrc p1 p2 hxv hn p3 p6 p7 p8
       ·cases ha
      ·rename_i l e1;rw[e1]at hxv;generalize a.eval x=xx at*
       by_cases hk:k=0
       ·rw[ah hk,ai]at ha;subst ha;obtain⟨news,hlen,hfc,hry,hyl⟩:=rN (P:=P) h hyv hsrc hp;have hf0:=hfc w 0 rfl (by omega)
        refine .val h (val:=xx) ?_ hxv;subst hk
        cases hxv with
        |v hxv=>cases hxv with
         |sl0=>rcases hu with hu|⟨e',hu⟩<;>simp[Builtin.append_,run_underlying hte,run_underlying hu,sizeOf,typeInfo,hi,hlen,hf0,storeCells]
         |sle b cap=>rcases hu with hu|⟨e',hu⟩<;>simp[Builtin.append_,run_underlying hte,run_underlying hu,sizeOf,typeInfo,hi,hlen,hf0,storeCells]
         |sl l z vs bk of cap hc hz h1 hl hr h=>rcases hu with hu|⟨e',hu⟩<;>simp[Builtin.append_,run_underlying hte,run_underlying hu,sizeOf,typeInfo,hi,hlen,hf0,storeCells,hc]
       ·rw[af hk]at ha;cases ha
      ·cases ha
     ·cases ha
    split at hc
    ·rename_i e e' hte hue;simp only[Option.bind_eq_bind,bu,ai]at hc;obtain⟨i,hi,z,hz,hc⟩:=hc
     split at hc
     ·rename_i hcond;simp only[bu,ai]at hc;obtain⟨x',hx,y',hy,rfl⟩:=hc;exact key e i z x' y' hte hi hz hcond.1 hcond.2.1 (.inr ⟨_,hue⟩) hx hy ha
     ·cases hc
    ·rename_i e hte hue;simp only[Option.bind_eq_bind,bu,ai]at hc;obtain⟨i,hi,z,hz,hc⟩:=hc
     split at hc
     ·rename_i hcond;simp only[bu,ai]at hc;obtain⟨x',hx,y',hy,rfl⟩:=hc;exact key e i z x' y' hte hi hz hcond.1 (by omega) (.inl hue) hx hy ha
     ·cases hc
    ·cases hc
   ·
    rename_i x y t u hargs htys;have ea:c.args= #[x,y]:=by apply fo;simpa using hargs
    have et:c.argTypes= #[t,u]:=by apply fo;simpa using htys
    rw[run,ea,et,show(#[x,y]:Array Operand).map a.eval= #[a.eval x,a.eval y]from by simp]
    rw[show(builtin .copy #[t,u] o.type K #[a.eval x,a.eval y])=vS (Builtin.copy_ #[t,u] o.type #[a.eval x,a.eval y])from rfl]
    have key: ∀(e:TypeId) (z:Nat) (x' y':SX),P.underlying t=some (.slice e)->cJ P e=some z->sx P x=some x'->sx P y=some y'->
      fe nm (.cpy z x' y') tf hf=some ao->dI P C hf wr base nm (vS (Builtin.copy_ #[t,u] o.type #[a.eval x,a.eval y])) w ao.v ao.up:=by
     intro e z x' y' hte hz hx hy ha;have hxv:=bO hx ht;have hyv:=bO hy ht;simp only[fe]at ha
     split at ha
     ·rename_i ys k p r n ver q len z' hsrc e1;rw[e1]at hxv
      split at ha
      ·rename_i ob hn;rw[ai]at ha;subst ha;obtain⟨p1,p2,p3,rfl,p5⟩:=hp;exact Vd (ty:=o.type) h hte hz hyv hsrc p1 p2 hxv hn p3 p5
      ·cases ha
     ·cases ha
    split at hc
    ·rename_i e e' hte hue;simp only[Option.bind_eq_bind,bu,ai]at hc;obtain⟨z,hz,x',hx,y',hy,rfl⟩:=hc;exact key e z x' y' hte hz hx hy ha
    ·rename_i e hte hue;simp only[Option.bind_eq_bind,bu,ai]at hc;obtain⟨z,hz,hc⟩:=hc
     split at hc
     ·rename_i hcond;simp only[bu,ai]at hc;obtain⟨x',hx,y',hy,rfl⟩:=hc;subst hcond;exact key e 1 x' y' hte hz hx hy ha
     ·cases hc
    ·cases hc
   ·
    rename_i x t hargs htys;have ea:c.args= #[x]:=by apply fo;simpa using hargs
    have et:c.argTypes= #[t]:=by apply fo;simpa using htys
    rw[run,ea,et,show(#[x]:Array Operand).map a.eval= #[a.eval x]from by simp]
    rw[show(builtin .clear #[t] o.type K #[a.eval x])=vS (Builtin.clear_ #[t] o.type #[a.eval x])from rfl]
    split at hc
    ·rename_i e hte;simp only[Option.bind_eq_bind,bu,ai]at hc;obtain⟨z,hz,x',hx,rfl⟩:=hc;have hxv:=bO hx ht;simp only[fe]at ha
     split at ha
     ·rename_i n ver q len z' e1;rw[e1]at hxv
      split at ha
      ·rename_i ob hn;rw[ai]at ha;subst ha;obtain⟨p1,rfl,p3⟩:=hp;exact Vc (ty:=o.type) h hte hz hxv hn p1 p3
      ·cases ha
     ·cases ha
    ·cases hc
   ·
    rename_i x y hargs;have ea:c.args= #[x,y]:=by apply fo;simpa using hargs
    rw[run,ea,show(#[x,y]:Array Operand).map a.eval= #[a.eval x,a.eval y]from by simp]
    rw[show(builtin .max c.argTypes o.type K #[a.eval x,a.eval y])=vS (if true then Builtin.max_ c.argTypes o.type #[a.eval x,a.eval y]else Builtin.min_ c.argTypes o.type #[a.eval x,a.eval y])from rfl]
    simp only[Option.bind_eq_bind,bu,ai]at hc;obtain⟨x',hx,y',hy,rfl⟩:=hc;have hxv:=bO hx ht;have hyv:=bO hy ht;simp only[fe]at ha
    split at ha
    ·rename_i k m k' n e1 e2;rw[e1]at hxv;rw[e2]at hyv;simp only[dm,ai]at ha;subst ha;exact SW h hxv hyv
    ·cases ha
   ·
    rename_i x y hargs;have ea:c.args= #[x,y]:=by apply fo;simpa using hargs
    rw[run,ea,show(#[x,y]:Array Operand).map a.eval= #[a.eval x,a.eval y]from by simp]
    rw[show(builtin .min c.argTypes o.type K #[a.eval x,a.eval y])=vS (if false then Builtin.max_ c.argTypes o.type #[a.eval x,a.eval y]else Builtin.min_ c.argTypes o.type #[a.eval x,a.eval y])from rfl]
    simp only[Option.bind_eq_bind,bu,ai]at hc;obtain⟨x',hx,y',hy,rfl⟩:=hc;have hxv:=bO hx ht;have hyv:=bO hy ht;simp only[fe]at ha
    split at ha
    ·rename_i k m k' n e1 e2;rw[e1]at hxv;rw[e2]at hyv;simp only[dm,ai]at ha;subst ha;exact SW h hxv hyv
    ·cases ha
   ·
    rename_i x hargs;have ea:c.args= #[x]:=by apply fo;simpa using hargs
    rw[run,ea,show(#[x]:Array Operand).map a.eval= #[a.eval x]from by simp]
    rw[show(builtin .unsafeSliceData c.argTypes o.type K #[a.eval x])=vS (Builtin.unsafeSliceData_ c.argTypes o.type #[a.eval x])from rfl]
    simp only[Option.bind_eq_bind,bu,ai]at hc;obtain⟨x',hx,rfl⟩:=hc;simp only[fe]at ha;exact Vv h (bO hx ht) ha hp
   ·
    rename_i x y pt it hargs htys;have ea:c.args= #[x,y]:=by apply fo;simpa using hargs
    have et:c.argTypes= #[pt,it]:=by apply fo;simpa using htys
    rw[run,ea,et,show(#[x,y]:Array Operand).map a.eval= #[a.eval x,a.eval y]from by simp]
    rw[show(builtin .unsafeString #[pt,it] o.type K #[a.eval x,a.eval y])=vS (Builtin.unsafeString_ #[pt,it] o.type #[a.eval x,a.eval y])from rfl]
    split at hc
    ·rename_i e hu
     split at hc
     ·rename_i hce;simp only[Option.bind_eq_bind,bu,ai]at hc;obtain⟨x',hx,y',hy,rfl⟩:=hc;simp only[fe]at ha;exact Vw h hu hce (bO hx ht) (bO hy ht) ha hp
     ·cases hc
    ·cases hc
   ·cases hc
  ·cases hc
 case h_21 f x y ho=>
  simp only[Option.bind_eq_bind,bu,ai]at hc;obtain⟨x',hx,y',hy,rfl⟩:=hc;simp only[fe,cM,ai]at ha;subst ha;rw[show execOp a.eval o=vS (Instr.makeFunc f (x.map a.eval) (y.map a.eval))from by simp only[execOp,ho];rfl]
  have hxr:=CP hx ht;have hyr:=CP hy ht;refine .val h (val:= .func f (x.map a.eval) (y.map a.eval)) rfl ?_;have e1:x.map a.eval=(x.toList.map a.eval).toArray:=fo (by simp)
  have e2:y.map a.eval=(y.toList.map a.eval).toArray:=fo (by simp)
  split
  ·have n1:x.toList.map a.eval=[]:=hxr.dx;have n2:y.toList.map a.eval=[]:=hyr.dx;rw[e1,e2,n1,n2];exact .v (.fn f)
  ·rw[e1,e2];exact .fn f _ _ _ _ hxr.1 hyr.1 hxr.2 hyr.2
 case h_22 x ho=>
  simp only[Option.bind_eq_bind,bu,ai]at hc;obtain⟨x',hx,rfl⟩:=hc;refine Vq h (bO hx ht) ha ?_ ?_
  ·intro q hq;simp only[execOp,ho,hq]
  ·intro f b c hq;simp only[execOp,ho,hq]
 case h_23 t x ho=>
  rw[show execOp a.eval o=vS (Instr.makeInterface t (a.eval x))from by simp only[execOp,ho];rfl]
  have key: ∀x',sx P x=some x'->P.concrete t=true->fe nm (.mki t x') tf hf=some ao->dI P C hf wr base nm (vS (Instr.makeInterface t (a.eval x))) w ao.v ao.up:=by
   intro x' hx hco ha;simp only[fe]at ha;have hxv:=bO hx ht
   split at ha
   ·rename_i y e1;rw[e1]at hxv;simp only[cM,ai]at ha;subst ha
    cases hxv with
    |v hxv=>exact .val h (run_makeInterface w t (a.eval x) hco) (.v (.ifc t y _ hxv))
   ·cases ha
  split at hc
  ·rename_i hu;simp only[Option.bind_eq_bind,bu,ai]at hc;obtain⟨x',hx,rfl⟩:=hc;exact key x' hx (by simp[Program.concrete,hu]) ha
  ·rename_i hu;simp only[Option.bind_eq_bind,bu,ai]at hc;obtain⟨x',hx,rfl⟩:=hc;exact key x' hx (by simp[Program.concrete,hu]) ha
  ·cases hc
 case h_24 t r ho=>
  have key: ∀kt et,P.underlying t=some (.map kt et)->(r=none\/ ∃k n,r=some (.const (.int k n)))->fe nm .mkm tf hf=some ao->dI P C hf wr base nm (execOp a.eval o) w ao.v ao.up:=by
   intro kt et hu hr ha;simp only[fe,ai]at ha;subst ha;rw[show execOp a.eval o=vS (Instr.makeMap t (r.map a.eval))from by simp only[execOp,ho];rfl]
   refine Vo h hnm hwr hbase ?_;rcases hr with rfl|⟨k,n,rfl⟩
   ·simp only[vS,Instr.makeMap,Option.map_none,bT,Result.andThen,run_newObj,Sem.run_pure];rfl
   ·simp[vS,Instr.makeMap,bT,Result.andThen,run_newObj,run_underlying hu,asInt,asIntOf,Act.eval]
  split at hc
  ·rename_i kt et hu;simp only[ai]at hc;subst hc;exact key kt et hu (.inl rfl) ha
  ·rename_i k n kt et hu;simp only[ai]at hc;subst hc;exact key kt et hu (.inr ⟨k,n,rfl⟩) ha
  ·cases hc
 case h_25 t x k c ho=>
  rw[show execOp a.eval o=vS (Instr.lookup t (a.eval x) (a.eval k) c)from by simp only[execOp,ho];rfl]
  have key: ∀st kt et z x' k' d,P.underlying t=some (.map kt et)->P.underlying kt=some d->Qp st d->FT P et=some z->sx P x=some x'->sx P k=some k'->fe nm (.mget c st z x' k') tf hf=some ao->dI P C hf wr base nm (vS (Instr.lookup t (a.eval x) (a.eval k) c)) w ao.v ao.up:=by
   intro st kt et z x' k' d hu hkd hd hz hx hk ha;simp only[fe]at ha;have hxv:=bO hx ht;have hkv:=bO hk ht
   split at ha
   ·rename_i n kk e1 e2;rw[e1]at hxv;rw[e2]at hkv
    split at ha
    ·rename_i ob hn;simp only[ai]at ha;subst ha;exact Rc h hu hkd hd hz hn hxv hkv hp
    ·cases ha
   ·cases ha
  split at hc
  ·rename_i kt et hu;simp only[Option.bind_eq_bind,bu]at hc;obtain⟨z,hzs,x',hx,k',hk,hc⟩:=hc
   split at hc
   ·rename_i q hkd;simp only[ai]at hc;subst hc;exact key false kt et z x' k' _ hu hkd ⟨_,rfl⟩ hzs hx hk ha
   ·rename_i hkd;simp only[ai]at hc;subst hc;exact key true kt et z x' k' _ hu hkd rfl hzs hx hk ha
   ·cases hc
  ·cases hc
 case h_26 t m k v ho=>
  rw[show execOp a.eval o=(do Instr.mapUpdate t (a.eval m) (a.eval k) (a.eval v);pure .skip)from by simp only[execOp,ho]]
  have key: ∀st kt et x' k' v' d,P.underlying t=some (.map kt et)->P.underlying kt=some d->Qp st d->sx P m=some x'->sx P k=some k'->sx P v=some v'->fe nm (.mset st x' k' v') tf hf=some ao->dI P C hf wr base nm (do Instr.mapUpdate t (a.eval m) (a.eval k) (a.eval v);pure .skip) w ao.v ao.up:=by
   intro st kt et x' k' v' d hu hkd hd hx hk hv ha;simp only[fe]at ha;have hxv:=bO hx ht;have hkv:=bO hk ht;have hvv:=bO hv ht
   split at ha
   ·rename_i n kk vv e1 e2 e3;rw[e1]at hxv;rw[e2]at hkv;rw[e3]at hvv
    split at ha
    ·rename_i ob hn;simp only[ai]at ha;subst ha;exact Re h hu hkd hd hn hxv hkv hvv hp
    ·cases ha
   ·cases ha
  split at hc
  ·rename_i kt et hu;simp only[Option.bind_eq_bind,bu]at hc;obtain⟨x',hx,k',hk,v',hv,hc⟩:=hc
   split at hc
   ·rename_i q hkd;simp only[ai]at hc;subst hc;exact key false kt et x' k' v' _ hu hkd ⟨_,rfl⟩ hx hk hv ha
   ·rename_i hkd;simp only[ai]at hc;subst hc;exact key true kt et x' k' v' _ hu hkd rfl hx hk hv ha
   ·cases hc
  ·cases hc
 case h_27=>simp only[ai]at hc;subst hc;simp[fe]at ha
 case h_28=>cases hc
end
