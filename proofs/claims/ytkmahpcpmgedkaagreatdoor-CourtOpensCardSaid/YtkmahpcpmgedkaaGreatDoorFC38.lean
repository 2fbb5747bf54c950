/- Part of the proof. -/
import Derived.Test.YtkmahpcpmgedkaaGreatDoorFC37
import Derived.Test.YtkmahpcpmgedkaaGreatDoorFC35
set_option linter.all false
set_option maxHeartbeats 16000000
set_option maxRecDepth 100000
namespace Go.Proofs.Tryz
open Go Go.Dom Go.Num
variable {c ctx sl st:Bytes}
def lM (o c sl b:Bytes):Nat:=if b=[]then num o else qk c sl b
def lR (o c sl b:Bytes):Nat:=if b=[]then num o else Nq c sl b
def lP (o c sl b:Bytes):PV:= .agg [N (lM o c sl b),N (lR o c sl b)]
structure As (c sl:Bytes) (s:cU):Prop where
 r:sP c sl
 g:Ca s
 m: ∀b∈s.vars,b=[]->num c<=num (bM s.groups)
theorem pA (b:Bytes):aE 256 [cO b] (E (if b=[]then 0 else 1)):=by
 by_cases h:b=[]
 ·subst h;unfold cO;refine eW call256 func256 ?_;exact gi @nn
 ·rw[ae h];exact OQ h
theorem FQ (c sl q b:Bytes):aE 257 [.agg [.s c, .s sl, .s q], .s b] (.tup [.agg [.s q, .s q],E 0]):=by
 refine eW call257 func257 ?_;exact z0
theorem aae (o c sl:Bytes):dL (lP o c sl) 2:=⟨fun _=>rfl,fun x y hy=>by simp[lP,PV.cells]at hy;rcases hy with rfl|rfl<;>rfl,fun h=>oO,fun _ x=>rfl⟩
theorem Ab {s:cU} (h:As c sl s):aE 148 [.agg [.s c, .s sl],s.pv] (.tup [.sl (s.vars.map (lP (bM s.groups) c sl)),E 0]):=by
 obtain⟨hr,hs,hm⟩:=h;have hck:=It hs.b;rw[hs.ck]at hck;have hor:=B1 s (by have:=hs.ng;omega)
 have hoV:=fa hs.g;have v1:=aT c;have v2:=aT sl;rw[hr.vc]at v1;rw[hr.vs]at v2;have c1:=Mn hr.vc;have c2:=Mn hr.vs;have d1: ∀ _:True,decide (bc (num c) 2<0)=false:=fun _=>aG (fun g=>by have:=fM.1 g;have:=hr.c2;omega)
 have d2: ∀ _:True,decide (bc (num sl) 2<0)=false:=fun _=>aG (fun g=>by have:=fM.1 g;have:=hr.s2;omega)
 have c3:=sZ hr.vc hoV.1;generalize bc (num c) 2=cm1 at*;generalize bc (num sl) 2=cm2 at*;have hv:=hs.v;have nv:=hs.nv;obtain⟨gs,vs,es⟩:=s;simp only at hv hm nv hor hoV c3⊢;generalize bM gs=q at*;have d3: ∀b∈vs,b=[]->decide (bc (num c) (num q)>0)=false:=fun b hb h=>aG fun g=>by
  have:=hm b hb h;unfold bc at g
  split at g
  ·omega
  ·split at g<;>omega
 generalize bc (num c) (num q)=cm3 at*;have eq:=eH hoV.1;have l2:(vs.map cO).length=vs.length:=aC ..;clear hm hoV;unfold cU.pv at*;simp only at*;refine eW call148 func148 ?_;refine HI (aN (d1 oT) (aN (d2 oT) @l2)) @v1 @v2 @hck @WU @c1 @c2 @hor ?_;refine af (α:=Nat) (fun i=>vs.length-i) (fun i=>⟨[(2, .p 1000 0 0),(3, .p 1001 0 0),(8, .p 1037 0 0),(50, .v (.sl (vs.map cO))),(51,E' vs.length),(52,E' i)],[(1000,⟨0,[.v (.s c), .v (.s sl)],false,none⟩),(1001,⟨0,[.v (.sl (gs.map eB)), .v (.sl (vs.map cO)), .v (.sl (es.map dx.pv))],false,none⟩),(1037,⟨0,[.v (.s c), .v (.s sl), .v (.s q)],false,some 317⟩)],_⟩) (fun i=>i<=vs.length) 0 (fun _=>aA _) (aI _) ?_ ?_
 ·exact lE
 ·intro i hi R hR
  by_cases hlt:i<vs.length
  ·have e1:=getD_map cO vs [] hlt;have hk:=pA (vs.getD i []);have d3:=d3 _ (an [] hlt);have hgo:=hR (i+1) oO oO;clear hR;generalize vs.getD i []=b at*;simp only[cO]at e1 hk
   by_cases hb:b=[]
   ·rw[ah hb]at hk;have d3:=d3 hb;exact vY (aN @l2 (aN @e1 @d3)) @hgo @hk @c3
   ·rw[ae hb]at hk;exact gV (aN @l2 @e1) @hgo @hk
  ·obtain rfl:i=vs.length:=oO;have hL:=aae q c sl;have row0: ∀{i:Nat},i<vs.length->aX (lP q c sl) (vs.take (i+1))=aX (lP q c sl) (vs.take i)++[.v (N (lM q c sl (vs.getD i []))), .v (N (lR q c sl (vs.getD i [])))]:=fun h=>by
    rw[aS [] h,bU];rfl
   clear hR d3 c1 c2 c3 d1 d2 hlt
   by_cases hpos:0<vs.length
   ·refine dH @l2 ?_;refine ai ?_;have e1:=getD_map cO vs [] hpos;have hk:=pA (vs.getD 0 []);have r1:=row0 hpos;have hcs:(vs.getD 0 []=[]/\aE 257 [.agg [.s c, .s sl, .s q], .s (vs.getD 0 [])] (.tup [.agg [N (lM q c sl (vs.getD 0 [])),N (lR q c sl (vs.getD 0 []))],E 0]))\/(vs.getD 0 []≠[]/\aE 258 [.agg [.s c, .s sl, .s q], .s (vs.getD 0 [])] (.tup [.agg [N (lM q c sl (vs.getD 0 [])),N (lR q c sl (vs.getD 0 []))],E 0])):=by
     by_cases h:vs.getD 0 []=[]
     ·refine .inl ⟨h,?_⟩;rw[h,lM,lR,ah rfl,ah rfl,eq];exact FQ c sl q []
     ·obtain⟨k1,k3⟩:=hv _ (an [] hpos);refine .inr ⟨h,?_⟩;rw[lM,lR,ae h,ae h];exact tT (q:=q) hr k1 h k3
    generalize lM q c sl (vs.getD 0 [])=A at*;generalize lR q c sl (vs.getD 0 [])=B at*;generalize vs.getD 0 []=b at*;simp only[cO]at e1 hk;rcases hcs with⟨hb,hi1⟩|⟨hb,hi1⟩
    all_goals
     first|rw[ah hb]at hk|rw[ae hb]at hk
     refine HH (aN @l2 @e1) @hk @hi1 ?_;refine af (α:=Nat) (fun j=>vs.length-(j+1)) (fun j=>⟨[(11, .p 1049 0 0),(12, .rs 1079 j 0 (j+1) 2),(74, .v (.sl (vs.map cO))),(75,E' vs.length),(76,E' (j+1))],[(1049,⟨0,[.fn (.func 257) [.v (.agg [.s c, .s sl, .s q])] [], .fn (.func 258) [.v (.agg [.s c, .s sl, .s q])] []],false,some 320⟩),(1079,⟨j,aX (lP q c sl) (vs.take (j+1)),true,some 242⟩)],1083⟩) (fun j=>j+1<=vs.length) 0 (fun _=>bQ rfl) hpos ?_ ?_
     ·rw[dF,r1,List.take_zero,show aX (lP q c sl) []=[]from rfl]
      exact lE
     ·clear e1 hk hi1 r1 hb;intro j hj R hR;have hj1:(vs.take (j+1)).length=j+1:=by rw[bL];omega
      have q1:=cj hL (vs.take (j+1));have q2:=cq hL (vs.take (j+1));rw[hj1]at q1 q2
      by_cases hlt:j+1<vs.length
      ·have hgo:=hR (j+1) oO oO;clear hR;have e1:=getD_map cO vs [] hlt;have hk:=pA (vs.getD (j+1) []);have r1:=row0 hlt;have hcs:(vs.getD (j+1) []=[]/\aE 257 [.agg [.s c, .s sl, .s q], .s (vs.getD (j+1) [])] (.tup [.agg [N (lM q c sl (vs.getD (j+1) [])),N (lR q c sl (vs.getD (j+1) []))],E 0]))\/(vs.getD (j+1) []≠[]/\aE 258 [.agg [.s c, .s sl, .s q], .s (vs.getD (j+1) [])] (.tup [.agg [N (lM q c sl (vs.getD (j+1) [])),N (lR q c sl (vs.getD (j+1) []))],E 0])):=by
        by_cases h:vs.getD (j+1) []=[]
        ·refine .inl ⟨h,?_⟩;rw[h,lM,lR,ah rfl,ah rfl,eq];exact FQ c sl q []
        ·obtain⟨k1,k3⟩:=hv _ (an [] hlt);refine .inr ⟨h,?_⟩;rw[lM,lR,ae h,ae h];exact tT (q:=q) hr k1 h k3
       generalize lM q c sl (vs.getD (j+1) [])=A at*;generalize lR q c sl (vs.getD (j+1) [])=B at*;generalize vs.getD (j+1) []=b at*;simp only[cO]at e1 hk;rcases hcs with⟨hb,hi1⟩|⟨hb,hi1⟩
       all_goals
        first|rw[ah hb]at hk|rw[ae hb]at hk
        rw[r1]at hgo;refine qC (aN @l2 (aN @e1 (aN @q1 @q2))) @hk @hi1 ?_;refine hgo _ ?_
        (refine AS.Le.of (by first|decide|omega) ?_ ?_<;>simp[dC,dA,aP,ay,AV.bd,AV.bd.bdL,u8,ar,au,az])
        all_goals (intro c hc;rcases hc with h|h|h<;>first|exact cL h|(subst h;rfl))
      ·obtain hjv:j+1=vs.length:=oO;rw[hjv,cd]at q1 q2;rw[hjv,cd];have q3:=dQ hL vs;have q4:=cJ hL vs;repeat' first|simp only[go_sem,seval,l2,q1,q2,q3,q4,ec]|refine oE ?_|apply xX<;>intro hc
       all_goals skip
   ·obtain rfl:vs=[]:=gb.1 oO;exact Wp @l2
theorem FF {s:cU} (h:As c sl s):aE 135 [.agg [.s c, .s sl],s.pv] (.tup [.sl (s.vars.map fun b=>N (lM (bM s.groups) c sl b)), .sl (s.vars.map fun b=>N (lR (bM s.groups) c sl b)),E 0]):=by
 have hb:=Ab h;have nv:=h.g.nv;obtain⟨gs,vs,es⟩:=s;simp only at hb nv⊢;clear h;generalize bM gs=o at*;have l2:(vs.map (lP o c sl)).length=vs.length:=aC ..;unfold cU.pv at*;simp only at*
 by_cases hpos:0<vs.length
 rotate_left
 ·obtain rfl:vs=[]:=gb.1 oO;refine eW call135 func135 ?_;exact WC @hb
 have hM:dL (fun b=>N (lM o c sl b)) 1:=⟨fun _=>rfl,fun _ y hy=>by cases cR.1 hy;rfl,fun _ _=>rfl,fun h=>aM rfl h⟩
 have hR0:dL (fun b=>N (lR o c sl b)) 1:=⟨fun _=>rfl,fun _ y hy=>by cases cR.1 hy;rfl,fun _ _=>rfl,fun h=>aM rfl h⟩
 have row1: ∀{i:Nat},i<vs.length->aX (fun b=>N (lM o c sl b)) (vs.take (i+1))=aX (fun b=>N (lM o c sl b)) (vs.take i)++[.v (N (lM o c sl (vs.getD i [])))]:=fun h=>by
  rw[aS [] h,bU];rfl
 have KR: ∀{i:Nat},i<vs.length->aX (fun b=>N (lR o c sl b)) (vs.take (i+1))=aX (fun b=>N (lR o c sl b)) (vs.take i)++[.v (N (lR o c sl (vs.getD i [])))]:=fun h=>by
  rw[aS [] h,bU];rfl
 refine eW call135 func135 ?_;refine oZ @l2 @hb ?_;refine ai ?_;have e1:=getD_map (lP o c sl) vs [] hpos;have r1:=row1 hpos;have r2:=KR hpos;simp only[lP]at e1;refine dH (aN @l2 @e1) ?_;refine af (α:=Nat) (fun j=>vs.length-(j+1)) (fun j=>⟨[(9, .rs 1029 j 0 (j+1) 1),(10, .rs 1034 j 0 (j+1) 1),(22, .v (.sl (vs.map (lP o c sl)))),(23,E' vs.length),(24,E' (j+1))],[(1029,⟨j,aX (fun b=>N (lM o c sl b)) (vs.take (j+1)),true,some 22⟩),(1034,⟨j,aX (fun b=>N (lR o c sl b)) (vs.take (j+1)),true,some 22⟩)],1039⟩) (fun j=>j+1<=vs.length) 0 (fun _=>bQ rfl) hpos ?_ ?_
 ·rw[dF,r1,r2,List.take_zero,show aX (fun b=>N (lM o c sl b)) []=[]from rfl,show aX (fun b=>N (lR o c sl b)) []=[]from rfl]
  exact lE
 ·intro j hj R hR;have hj1:(vs.take (j+1)).length=j+1:=by rw[bL];omega
  have q1:=cj hM (vs.take (j+1));have q2:=cq hM (vs.take (j+1));have q5:=cj hR0 (vs.take (j+1));have q6:=cq hR0 (vs.take (j+1));rw[hj1,db]at q1 q2 q5 q6
  by_cases hlt:j+1<vs.length
  ·have e1:=getD_map (lP o c sl) vs [] hlt;have r1:=row1 hlt;have r2:=KR hlt;simp only[lP]at e1;have hgo:=hR (j+1) oO oO;rw[r1,r2]at hgo;clear hR;refine dI (aN @l2 (aN @e1 (aN @q1 (aN @q2 (aN @q5 @q6))))) ?_;refine hgo _ ?_
   (refine AS.Le.of (by first|decide|omega) ?_ ?_<;>simp[dC,dA,aP,ay,AV.bd,AV.bd.bdL,u8,ar,au,az])
   all_goals (refine⟨?_,?_⟩<;>(intro c hc;rcases hc with h|h<;>first|exact cL h|(subst h;rfl)))
  ·obtain hjv:j+1=vs.length:=oO;rw[hjv,cd]at q1 q2 q5 q6;rw[hjv,cd];have q3:=dQ hM vs;have q4:chunk 1 vs.length (List.flatMap (fun x=>[PV.s (aY (lM o c sl x))]) vs)=vs.map fun b=>N (lM o c sl b):=cJ hM vs
   have q7:=dQ hR0 vs;have q8:chunk 1 vs.length (List.flatMap (fun x=>[PV.s (aY (lR o c sl x))]) vs)=vs.map fun b=>N (lR o c sl b):=cJ hR0 vs
   repeat' first|simp only[go_sem,seval,l2,q1,q2,q3,q4,q5,q6,q7,q8,ec]|refine oE ?_|apply xX<;>intro hc
   all_goals skip
structure SF (s:cU):Prop where
 g: ∃m o,s.groups=[(m,o)]/\m.length<=1000/\o.length<=1000
 v0:s.vars≠[]
 nv:s.vars.length<=64
 v: ∀b∈s.vars,b.length<=1000
 ne:s.eqs.length<=64
 q: ∀q∈s.eqs,0<=q.mS/\q.mS<100/\q.tgt.length<=1000/\q.terms.length<=64/\ ∀t∈q.terms,0<=t.var/\t.var<100/\t.base.length<=1000/\t.abs.length<=1000
theorem rU {l:List eT} (hs:st.length=32):(l.foldl rC st).length=32:=by
 induction l generalizing st with
 |nil=>exact hs
 |cons t l ih=>exact ih (Hz _ _ _)
theorem rT {l:List dx} (hs:st.length=32):(l.foldl rB st).length=32:=by
 induction l generalizing st with
 |nil=>exact hs
 |cons q l ih=>exact ih (rU (fb _ _ _))
theorem WM (hst:st.length<=1000) {s:cU} (hs:SF s):aE 157 [.s st,s.pv] (.s (mO st s)):=by
 obtain⟨⟨m,o,hg,lm,lo⟩,v0,nv,hv,ne,hq⟩:=hs;obtain⟨gs,vs,es⟩:=s;simp only at hg v0 nv hv ne hq;subst hg;obtain⟨w0,wr,hw⟩: ∃a b,vs=a::b:=by cases vs with
  |nil=>exact aM rfl v0
  |cons a b=>exact⟨a,b,rfl⟩
 have hvl:vs.length=wr.length+1:=by rw[hw];rfl
 have hpos: ∀ _:True,(0:Int)<(vs.length:Int):=fun _=>oO
 have g0:(vs.map cO).getD 0 .fn0= .agg [.s w0]:=by rw[hw];rfl
 simp only[mO,eu,uD,kx,cU.pv,bC,bR,eB];have n1:=qx st tQ [m,o] oO oC (by simp) (by simp) (by intro s hs;simp at hs;rcases hs with rfl|rfl<;>omega)
 simp only[bC,bR]at n1;have n2:=qx (gK st tQ [m,o]) Aa vs (by rw[fb];decide) oC v0 oO (fun x hx=>by have:=hv x hx;omega)
 have l2:=fb (gK st tQ [m,o]) Aa vs;refine eW call157 func157 ?_;repeat' first|simp only[go_sem,seval]|(refine ai ?_)|refine oE ?_|apply xX<;>intro hc
 refine dI (aN @g0 (hpos oT)) ?_;have hro:[AV.v (PV.s w0)]=aX PV.s (vs.take 1):=by rw[hw];rfl
 rw[hro];refine af (α:=Nat) (fun j=>vs.length-j) (fun j=>⟨[(0, .v (.s st)),(3, .p 1000 0 0),(5, .rs 1019 0 0 2 1),(6, .rs 1037 j 0 (1+j) 1),(31, .v (.sl (vs.map cO))),(32,E' vs.length),(33,E' (j+1))],[(1000,⟨0,[.v (.sl [.agg [.s m, .s o]]), .v (.sl (vs.map cO)), .v (.sl (es.map dx.pv))],false,none⟩),(1019,⟨0,[.v (.s m), .v (.s o)],true,some 22⟩),(1037,⟨j,aX PV.s (vs.take (j+1)),true,some 22⟩)],1041⟩) (fun j=>j+1<=vs.length) 0 (fun _=>bQ rfl) oO ?_ ?_
 ·refine lG ?_;all_goals exact fun c hc=>cL hc
 ·intro j hj R hR;have hlr:(vs.take (j+1)).length=1+j:=by rw[bL];omega
  have q0:(aX PV.s (vs.take (j+1))).length=1+j:=by rw[cj dL.s,hlr,db]
  have q1:List.take (1+j) (aX PV.s (vs.take (j+1)))=aX PV.s (vs.take (j+1)):=cl oO
  by_cases hjt:j+1<vs.length
  ·have e2:=getD_map cO vs ([]:Bytes) hjt;have hgo:=hR (j+1) oO oO;rw[aS ([]:Bytes) hjt,bU]at hgo;generalize vs.getD (j+1) []=y at e2 hgo;have e2:(vs.map cO).getD (j+1) .fn0= .agg [.s y]:=e2;have e3: ∀ _:True,((j:Int)+1).toNat=j+1:=fun _=>oO
   clear hR hlr n1 n2;refine dI (aN @q0 (aN @q1 (aN @e2 (e3 oT)))) ?_;refine hgo _ ?_
   (refine AS.Le.of (by first|decide|omega) ?_ ?_<;>simp[dC,dA,aP,ay,AV.bd,AV.bd.bdL,u8,ar,au,az])
   all_goals first|omega|exact⟨rfl,fun c hc=>by rcases hc with hc|⟨a,ha,rfl⟩;exact cL hc;rfl⟩|skip
  ·have hj2:j+1=vs.length:=oO;rw[hj2,cd]at hlr q0 q1⊢;clear hR hpos g0 hro;repeat' first|simp only[go_sem,seval,q0,q1]|refine cV n1 ?_|(refine D9 (l:=vs) (g:=PV.s) (ver:=j) (gr:=true) (el:=some 22) n2 dL.s rfl (by simp[ay]) hlr.symm ?_)|refine oE ?_|apply xX<;>intro hc
   generalize gK (gK st tQ [m,o]) Aa vs=s0 at l2⊢;clear n1 n2;refine af (α:=Nat) (fun i=>es.length-i) (fun i=>⟨[(0, .v (.s ((es.take i).foldl rB s0))),(50, .v (.sl (es.map dx.pv))),(51,E' es.length),(52,E' i)],[],_⟩) (fun i=>i<=es.length) 0 (fun _=>aA _) (aI _) ?_ ?_
   ·(refine AS.Le.of (by first|decide|omega) ?_ ?_<;>simp[dC,dA,aP,ay,AV.bd,AV.bd.bdL,u8,ar,au,az])
    all_goals rfl
   ·intro i hi R hR
    by_cases hit:i<es.length
    ·have e2:=getD_map dx.pv es hG hit;have hgo:=hR (i+1) oO oO;rw[pc rB s0 hG hit]at hgo;obtain⟨g1,g2,g3,nt,ht⟩:=hq _ (an hG hit);have hX:=rT (l:=es.take i) l2;generalize (es.take i).foldl rB s0=X at hgo hX⊢;generalize es.getD i hG=q at*;obtain⟨mS,tgt,ts⟩:=q;simp only at g1 g2 g3 nt ht;obtain⟨n,rfl⟩: ∃n:Nat,mS=(n:Int):=⟨mS.toNat,oO⟩;have e2:(es.map dx.pv).getD i .fn0= .agg [.i .i64 (n:Int), .s tgt, .sl (ts.map eT.pv)]:=e2;simp only[rB,Int.toNat_natCast]at hgo;have ln:=oF n;have l4:(ts.map eT.pv).length=ts.length:=aC ..;have c1:=B9 n oO;have c2:=xA X Da (iw n) oO oC oO;have c3:=qx (fy X Da (iw n)) Hp [tgt] (by rw[jW];decide) oC (by simp) (by simp) (by simp;omega)
     have lS:=fb (fy X Da (iw n)) Hp [tgt];generalize gK (fy X Da (iw n)) Hp [tgt]=S0 at*;simp only[bC,bR]at c3;clear hR hq;refine uE (aN @e2 @l4) @c1 @c2 @c3 oT ?_;refine af (α:=Nat) (fun k=>ts.length-k) (fun k=>⟨[(0, .v (.s ((ts.take k).foldl rC S0))),(50, .v (.sl (es.map dx.pv))),(51,E' es.length),(52,E' i),(67, .v (.sl (ts.map eT.pv))),(68,E' ts.length),(69,E' k)],[],_⟩) (fun k=>k<=ts.length) 0 (fun _=>aA _) (aI _) ?_ ?_
     ·(refine AS.Le.of (by first|decide|omega) ?_ ?_<;>simp[dC,dA,aP,ay,AV.bd,AV.bd.bdL,u8,ar,au,az])
      all_goals rfl
     ·clear c1 c2 c3 e2;intro k hk R' hR'
      by_cases hkt:k<ts.length
      ·have e3:=getD_map eT.pv ts fp hkt;have hgo':=hR' (k+1) oO oO;rw[pc rC S0 fp hkt]at hgo';obtain⟨v1,v2,lb,la⟩:=ht _ (an fp hkt);have hY:=rU (l:=ts.take k) lS;generalize (ts.take k).foldl rC S0=Y at hgo' hY⊢;generalize ts.getD k fp=t at*;obtain⟨base,vr,ng,ab⟩:=t;simp only at v1 v2 lb la;obtain⟨v,rfl⟩: ∃v:Nat,vr=(v:Int):=⟨vr.toNat,oO⟩;have e3:(ts.map eT.pv).getD k .fn0= .agg [.s base, .i .i64 (v:Int), .b ng, .s ab]:=e3;simp only[rC,Int.toNat_natCast]at hgo';have lv:=oF v;have c4:=B9 v oO;have c5:=xA Y Hq (iw v) oO oC oO;have c6:=qx (fy Y Hq (iw v)) FE [base] (by rw[jW];decide) oC (by simp) (by simp) (by simp;omega)
       have c7:=OZ (gK (fy Y Hq (iw v)) FE [base]) OE ng ab (by rw[fb];decide) oC oO
       simp only[bC,bR]at c6;clear hR' hgo;refine vZ (aN @e3 @l4) @c4 @c5 @c6 @c7 ?_;refine hgo' _ ?_
       (refine AS.Le.of (by first|decide|omega) ?_ ?_<;>simp[dC,dA,aP,ay,AV.bd,AV.bd.bdL,u8,ar,au,az])
       all_goals first|omega|skip
      ·have h:k=ts.length:=oO;rw[h,cd];refine dI @l4 ?_;refine hgo _ ?_
       (refine AS.Le.of (by first|decide|omega) ?_ ?_<;>simp[dC,dA,aP,ay,AV.bd,AV.bd.bdL,u8,ar,au,az])
       all_goals first|omega|skip
    ·have h:i=es.length:=oO;rw[h,cd];exact z0
theorem wB {s:cU} (hp:As c sl s):aE 69 [.agg [.s c, .s sl],s.pv,C0] (.tup [X0 c sl s,E 0]):=by
 have hb:=FF hp;obtain⟨gs,vs,es⟩:=s;simp only[cU.pv,X0]at hb⊢;refine eW call69 func69 ?_;exact z2 @hb @HV
theorem yu {s:cU}:(mO st s).length=32:=by
 unfold mO;exact rT (fb _ _ _)
theorem yC (hr:sP c sl) {s:cU} (hb:SF s) (hx:ctx.length<=100000) {fs:List Bytes} (f0:fs≠[]) (fn:fs.length<=900) (fl: ∀x∈fs,x.length<=100000):
  aE 73 [X0 c sl s, .s ctx, .sl (fs.map .s), .sl []] (.tup [N (iU (Bs ctx s fs) c),E 0]):=by
 have c0:c≠[]:=by
  intro h;have:=hr.c2;rw[h]at this;exact aM this oC
 have n1:=Sm sy oC;have n2:=xA (mj sy) vM ctx (by rw[B5];decide) oC hx
 have n3:=WM (st:=fy (mj sy) vM ctx) (by rw[jW];decide) hb
 have n4:=xA (mO (fy (mj sy) vM ctx) s) Ho [] (by rw[yu];decide) oC oC
 have n5:=qx (fy (mO (fy (mj sy) vM ctx) s) Ho []) OF fs (by rw[jW];decide) oC f0 fn fl
 have n6:=AW (Bs ctx s fs) c (by rw[Bs,fb];decide) hr.vc c0 hr.lc
 have n5:aE 159 [.s (fy (mO (fy (mj sy) vM ctx) s) Ho []), .s OF, .sl (fs.map .s)] (.s (Bs ctx s fs)):=n5;generalize Bs ctx s fs=st5 at*;generalize mO (fy (mj sy) vM ctx) s=st3 at*;obtain⟨gq,vs,es⟩:=s;simp only[X0,cU.pv]at n3⊢;refine eW call73 func73 ?_;repeat' first|simp only[go_sem,seval]|refine cP n1 ?_|refine cP n2 ?_|refine cP n3 ?_|refine cP n4 ?_|refine cP n5 ?_|refine cP n6 ?_|refine cP UL ?_|(refine ai ?_)|refine oE ?_|apply xX<;>intro hc
theorem zR {s:cU} (hp:As c sl s):aE 178 [.agg [.s c, .s sl],s.pv] (.tup [.sl (s.vars.map fun b=>N (lM (bM s.groups) c sl b)), .sl (s.vars.map fun b=>N (lR (bM s.groups) c sl b)),E 0]):=by
 have hr:=hp.r;have hs:=hp.g;have hm:=hp.m;have hck:=KL hs;have hoV:=fa hs.g;clear hp;have hor:=Fx s (by have:=hs.ng;omega)
 have v1:=aK c;have v2:=aK sl;rw[hr.vc]at v1;rw[hr.vs]at v2;have lc:=hr.lc;have lsl:=hr.ls;have c1:=gJ (a:=c) (b:=[2]) (bJ hr.vc) (.inr oC) oO oC;have c2:=gJ (a:=sl) (b:=[2]) (bJ hr.vs) (.inr oC) oO oC;rw[show num ([2]:Bytes)=2 from rfl]at c1 c2
 have d1: ∀ _:True,decide (bc (num c) 2<0)=false:=fun _=>aG (fun g=>by have:=fM.1 g;have:=hr.c2;omega)
 have d2: ∀ _:True,decide (bc (num sl) 2<0)=false:=fun _=>aG (fun g=>by have:=fM.1 g;have:=hr.s2;omega)
 generalize bc (num c) 2=cm1 at*;generalize bc (num sl) 2=cm2 at*;have nv:=hs.nv;have hv:=hs.v;obtain⟨gs,vs,es⟩:=s;simp only at*;generalize bM gs=q at*;clear hs;have c3:=gJ (a:=c) (b:=q) (bJ hr.vc) (bJ hoV.1) oO oO;have d3: ∀b∈vs,b=[]->decide (bc (num c) (num q)>0)=false:=fun b hb h=>aG fun g=>by
  have:=hm b hb h;unfold bc at g
  split at g
  ·omega
  ·split at g<;>omega
 generalize bc (num c) (num q)=cm3 at*;have l2:(vs.map cO).length=vs.length:=aC ..;unfold cU.pv at*;simp only at*;have hM:dL (fun b=>N (lM q c sl b)) 1:=⟨fun _=>rfl,fun _ y hy=>by cases cR.1 hy;rfl,fun _ _=>rfl,fun h=>aM rfl h⟩
 have hR0:dL (fun b=>N (lR q c sl b)) 1:=⟨fun _=>rfl,fun _ y hy=>by cases cR.1 hy;rfl,fun _ _=>rfl,fun h=>aM rfl h⟩
 have row1: ∀{i:Nat},i<vs.length->aX (fun b=>N (lM q c sl b)) (vs.take (i+1))=aX (fun b=>N (lM q c sl b)) (vs.take i)++[.v (N (lM q c sl (vs.getD i [])))]:=fun h=>by
  rw[aS [] h,bU];rfl
 have KR: ∀{i:Nat},i<vs.length->aX (fun b=>N (lR q c sl b)) (vs.take (i+1))=aX (fun b=>N (lR q c sl b)) (vs.take i)++[.v (N (lR q c sl (vs.getD i [])))]:=fun h=>by
  rw[aS [] h,bU];rfl
 have rn1:aX (fun b=>N (lM q c sl b)) []=[]:=rfl
 have rn2:aX (fun b=>N (lR q c sl b)) []=[]:=rfl
 have t1:=qS sl c oO oO;have s1:=oP c [1] oO oC (by have:=hr.c2;show 1<=num c;omega)
 rw[show num ([1]:Bytes)=1 from rfl]at s1
 have llim: ∀{x:Nat},x<dZ->(aY x).length<1048576:=fun h=>by have:=nG.2 h;omega
 have h64:=nR;have hnc:=eR lc;have hns:=eR lsl;have hAl:num sl*num c<dZ:=bE (ga hns hnc) (by unfold dZ;decide+kernel)
 have tt: ∀{b:Bytes},aa b=true->b≠[]->b.length<=16->aE 295 [N (num sl*num c), .s b] (N (qk c sl b))/\aE 226 [.s b, .s [1]] (N (num b-1))/\aE 295 [N (num c-1),N (num b-1)] (N ((num c-1)*(num b-1)))/\aE 36 [N (qk c sl b)] (.b true)/\aE 226 [N (qk c sl b),N ((num c-1)*(num b-1))] (N (Nq c sl b)):=by
  intro b vb hb lb;have hb0:=qO (bJ vb) hb;have hb16:=EY lb;have hw:=AY;have hML:=xh hr lb;have hle:=Nr (b:=b) hr;have u1:=IZ (x:=num sl*num c) (y:=num b) (llim hAl) (llim oO);rw[eH vb]at u1;have u2:=oP b [1] oO oC hb0;rw[show num ([1]:Bytes)=1 from rfl]at u2
  have u3:=IZ (x:=num c-1) (y:=num b-1) (llim oO) (llim oO);have u4:=aK (aY (qk c sl b));rw[vB hML]at u4;have u5:=IV (x:=qk c sl b) (y:=(num c-1)*(num b-1)) (by have:=llim hML;omega) (by have:=llim (show(num c-1)*(num b-1)<dZ by omega);omega) hle
  exact⟨u1,u2,u3,u4,u5⟩
 have tt2: ∀{b:Bytes},aa b=true->b≠[]->b.length<=16->aE 295 [N (num sl*num c), .s b] (N (lM q c sl b))/\aE 226 [.s b, .s [1]] (N (num b-1))/\aE 295 [N (num c-1),N (num b-1)] (N ((num c-1)*(num b-1)))/\aE 36 [N (lM q c sl b)] (.b true)/\aE 226 [N (lM q c sl b),N ((num c-1)*(num b-1))] (N (lR q c sl b)):=by
  intro b vb hb lb;have:=tt vb hb lb
  rwa[<-show lM q c sl b=qk c sl b by rw[lM,ae hb],<-show lR q c sl b=Nq c sl b by rw[lR,ae hb]]at this
 clear tt hAl llim;refine eW call178 func178 ?_;refine HI (aN (d1 oT) (d2 oT)) @v1 @v2 @hck @c1 @c2 @hor oT ?_;refine af (α:=Nat) (fun i=>vs.length-i) (fun i=>⟨[(2, .p 1000 0 0),(3, .p 1001 0 0),(8, .v (.s q)),(9,E' i)],[(1000,⟨0,[.v (.s c), .v (.s sl)],false,none⟩),(1001,⟨0,[.v (.sl (gs.map eB)), .v (.sl (vs.map cO)), .v (.sl (es.map dx.pv))],false,none⟩)],_⟩) (fun i=>i<=vs.length) 0 (fun _=>aA _) (aI _) ?_ ?_
 ·exact lE
 ·intro i hi R hR
  by_cases hlt:i<vs.length
  ·have e1:=getD_map cO vs [] hlt;have hgo:=hR (i+1) oO oO;have d3:=d3 _ (an [] hlt);generalize vs.getD i []=x at*;clear hR;simp only[cO]at e1
   by_cases hb:x=[]
   ·have d3:=d3 hb;subst hb;exact gV (aN @l2 (aN @e1 (aN @nn @d3))) @hgo @c3
   ·have kb:(x==([]:Bytes))=false:=by simpa using hb
    exact jN (aN @l2 (aN @e1 @kb)) @hgo
  ·obtain rfl:i=vs.length:=oO;clear hR d3 c3
   by_cases hpos:0<vs.length
   rotate_left
   ·obtain rfl:vs=[]:=gb.1 oO;exact Wp @l2
   refine dH @l2 ?_;refine ai ?_;have e1:=getD_map cO vs [] hpos;have r1:=row1 hpos;have r2:=KR hpos;have kk:=hv _ (an [] hpos);have hcs:(vs.getD 0 []=[]/\N (lM q c sl (vs.getD 0 []))= .s q/\N (lR q c sl (vs.getD 0 []))= .s q)\/(vs.getD 0 []≠[]/\aE 295 [N (num sl*num c), .s (vs.getD 0 [])] (N (lM q c sl (vs.getD 0 [])))/\aE 226 [.s (vs.getD 0 []), .s [1]] (N (num (vs.getD 0 [])-1))/\aE 295 [N (num c-1),N (num (vs.getD 0 [])-1)] (N ((num c-1)*(num (vs.getD 0 [])-1)))/\aE 36 [N (lM q c sl (vs.getD 0 []))] (.b true)/\aE 226 [N (lM q c sl (vs.getD 0 [])),N ((num c-1)*(num (vs.getD 0 [])-1))] (N (lR q c sl (vs.getD 0 [])))):=by
    by_cases h:vs.getD 0 []=[]
    ·refine .inl ⟨h,?_,?_⟩
     ·rw[lM,ah h];exact eH hoV.1
     ·rw[lR,ah h];exact eH hoV.1
    ·exact .inr ⟨h,tt2 kk.1 h kk.2⟩
   clear kk;generalize lM q c sl (vs.getD 0 [])=A at*;generalize lR q c sl (vs.getD 0 [])=B at*;generalize vs.getD 0 []=b at*;simp only[cO]at e1;rcases hcs with⟨hb,hA,hB⟩|⟨hb,u1,u2,u3,u4,u5⟩
   rotate_left
   have kb:(b==([]:Bytes))=false:=by simpa using hb
   repeat' first|simp only[go_sem,seval,l2,e1,kb]|refine cP t1 ?_|refine cP u1 ?_|refine cP s1 ?_|refine cP u2 ?_|refine cP u3 ?_|refine cP u4 ?_|refine cP u5 ?_|refine oE ?_|apply xX<;>intro hc
   rotate_left
   rw[hA]at r1;rw[hB]at r2;have kb:(b==([]:Bytes))=true:=by simpa using hb
   repeat' first|simp only[go_sem,seval,l2,e1,kb]|refine oE ?_|apply xX<;>intro hc
   all_goals
    obtain⟨nm,hnm⟩: ∃nm,nm=(if b=[]then 1059 else 1077):=⟨_,rfl⟩
    obtain⟨nn',hnn⟩: ∃nn',nn'=(if b=[]then 1063 else 1083):=⟨_,rfl⟩
    obtain⟨nx',hnx⟩: ∃nx',nx'=(if b=[]then 1069 else 1089):=⟨_,rfl⟩
    first|rw[ah hb]at hnm hnn hnx|rw[ae hb]at hnm hnn hnx
    refine af (α:=Nat) (fun j=>vs.length-(j+1)) (fun j=>⟨[(2, .p 1000 0 0),(3, .p 1001 0 0),(8, .v (.s q)),(10, .rs nm j 0 (j+1) 1),(11, .rs nn' j 0 (j+1) 1),(12,E' (j+1))],[(1000,⟨0,[.v (.s c), .v (.s sl)],false,none⟩),(1001,⟨0,[.v (.sl (gs.map eB)), .v (.sl (vs.map cO)), .v (.sl (es.map dx.pv))],false,none⟩),(nm,⟨j,aX (fun b=>N (lM q c sl b)) (vs.take (j+1)),true,some 22⟩),(nn',⟨j,aX (fun b=>N (lR q c sl b)) (vs.take (j+1)),true,some 22⟩)],nx'⟩) (fun j=>j+1<=vs.length) 0 (fun _=>by show _<=nx';rw[hnx];exact bQ rfl) hpos ?_ ?_<;>subst hnm hnn hnx
    ·rw[dF,r1,r2,List.take_zero,rn1,rn2];exact lE
    ·first|clear u1 u2 u3 u4 u5|clear hA hB
     clear e1 kb r1 r2 hb;intro j hj R hR;have hj1:(vs.take (j+1)).length=j+1:=by rw[bL];omega
     have q1:=cj hM (vs.take (j+1));have q2:=cq hM (vs.take (j+1));have q5:=cj hR0 (vs.take (j+1));have q6:=cq hR0 (vs.take (j+1));rw[hj1,db]at q1 q2 q5 q6
     by_cases hlt:j+1<vs.length
     ·have hgo:=hR (j+1) oO oO;clear hR;have e1:=getD_map cO vs [] hlt;have r1:=row1 hlt;have r2:=KR hlt;have kk:=hv _ (an [] hlt);have hcs:(vs.getD (j+1) []=[]/\N (lM q c sl (vs.getD (j+1) []))= .s q/\N (lR q c sl (vs.getD (j+1) []))= .s q)\/(vs.getD (j+1) []≠[]/\aE 295 [N (num sl*num c), .s (vs.getD (j+1) [])] (N (lM q c sl (vs.getD (j+1) [])))/\aE 226 [.s (vs.getD (j+1) []), .s [1]] (N (num (vs.getD (j+1) [])-1))/\aE 295 [N (num c-1),N (num (vs.getD (j+1) [])-1)] (N ((num c-1)*(num (vs.getD (j+1) [])-1)))/\aE 36 [N (lM q c sl (vs.getD (j+1) []))] (.b true)/\aE 226 [N (lM q c sl (vs.getD (j+1) [])),N ((num c-1)*(num (vs.getD (j+1) [])-1))] (N (lR q c sl (vs.getD (j+1) [])))):=by
       by_cases h:vs.getD (j+1) []=[]
       ·refine .inl ⟨h,?_,?_⟩
        ·rw[lM,ah h];exact eH hoV.1
        ·rw[lR,ah h];exact eH hoV.1
       ·exact .inr ⟨h,tt2 kk.1 h kk.2⟩
      clear kk;generalize lM q c sl (vs.getD (j+1) [])=A at*;generalize lR q c sl (vs.getD (j+1) [])=B at*;generalize vs.getD (j+1) []=b at*;simp only[cO]at e1;rcases hcs with⟨hb,hA,hB⟩|⟨hb,u1,u2,u3,u4,u5⟩
      ·rw[hA]at r1;rw[hB]at r2;rw[r1,r2]at hgo;have kb:(b==([]:Bytes))=true:=by simpa using hb
       refine dI (aN @l2 (aN @e1 (aN @kb (aN @q1 (aN @q2 (aN @q5 @q6)))))) ?_;refine hgo _ ?_
       (refine AS.Le.of (by first|decide|omega) ?_ ?_<;>simp[dC,dA,aP,ay,AV.bd,AV.bd.bdL,u8,ar,au,az])
       all_goals (refine⟨?_,?_⟩<;>(intro c hc;rcases hc with h|h<;>first|exact cL h|(subst h;rfl)))
      ·rw[r1,r2]at hgo;have kb:(b==([]:Bytes))=false:=by simpa using hb
       refine Sz (aN @l2 (aN @e1 (aN @kb (aN @q1 (aN @q2 (aN @q5 @q6)))))) @t1 @u1 @s1 @u2 @u3 @u4 @u5 ?_;refine hgo _ ?_
       (refine AS.Le.of (by first|decide|omega) ?_ ?_<;>simp[dC,dA,aP,ay,AV.bd,AV.bd.bdL,u8,ar,au,az])
       all_goals (refine⟨?_,?_⟩<;>(intro c hc;rcases hc with h|h<;>first|exact cL h|(subst h;rfl)))
     ·obtain hjv:j+1=vs.length:=oO;rw[hjv,cd]at q1 q2 q5 q6;rw[hjv,cd];have q3:=dQ hM vs;have q4:chunk 1 vs.length (List.flatMap (fun x=>[PV.s (aY (lM q c sl x))]) vs)=vs.map fun b=>N (lM q c sl b):=cJ hM vs
      have q7:=dQ hR0 vs;have q8:chunk 1 vs.length (List.flatMap (fun x=>[PV.s (aY (lR q c sl x))]) vs)=vs.map fun b=>N (lR q c sl b):=cJ hR0 vs
      exact gi (aN @l2 (aN @q1 (aN @q2 (aN @q3 (aN @q4 (aN @q5 (aN @q6 (aN @q7 (aN @q8 @ec)))))))))
theorem VT (hst:st.length<=1000) {s:cU} (hs:SF s):aE 193 [.s st,s.pv] (.s (mO st s)):=by
 obtain⟨⟨m,o,hg,lm,lo⟩,v0,nv,hv,ne,hq⟩:=hs;obtain⟨gs,vs,es⟩:=s;simp only at hg v0 nv hv ne hq;subst hg;obtain⟨w0,wr,hw⟩: ∃a b,vs=a::b:=by cases vs with
  |nil=>exact aM rfl v0
  |cons a b=>exact⟨a,b,rfl⟩
 have hvl:vs.length=wr.length+1:=by rw[hw];rfl
 have hpos: ∀ _:True,(0:Int)<(vs.length:Int):=fun _=>oO
 have g0:(vs.map cO).getD 0 .fn0= .agg [.s w0]:=by rw[hw];rfl
 simp only[mO,eu,uD,kx,cU.pv,bC,bR,eB];have n1:=mW st tQ [m,o] oO oC (by simp) (by simp) (by intro s hs;simp at hs;rcases hs with rfl|rfl<;>omega)
 simp only[bC,bR]at n1;have n2:=mW (gK st tQ [m,o]) Aa vs (by rw[fb];decide) oC v0 oO (fun x hx=>by have:=hv x hx;omega)
 have l2:=fb (gK st tQ [m,o]) Aa vs;refine eW call193 func193 ?_;repeat' first|simp only[go_sem,seval]|(refine ai ?_)|refine oE ?_|apply xX<;>intro hc
 refine dI (aN @g0 (hpos oT)) ?_;have hro:[AV.v (PV.s w0)]=aX PV.s (vs.take 1):=by rw[hw];rfl
 rw[hro];refine af (α:=Nat) (fun j=>vs.length-j) (fun j=>⟨[(0, .v (.s st)),(3, .p 1000 0 0),(5, .rs 1024 0 0 2 1),(6, .rs 1048 j 0 (1+j) 1),(8,E' (j+1))],[(1000,⟨0,[.v (.sl [.agg [.s m, .s o]]), .v (.sl (vs.map cO)), .v (.sl (es.map dx.pv))],false,none⟩),(1024,⟨0,[.v (.s m), .v (.s o)],true,some 22⟩),(1048,⟨j,aX PV.s (vs.take (j+1)),true,some 22⟩)],1053⟩) (fun j=>j+1<=vs.length) 0 (fun _=>bQ rfl) oO ?_ ?_
 ·refine lG ?_;all_goals exact fun c hc=>cL hc
 ·intro j hj R hR;have hlr:(vs.take (j+1)).length=1+j:=by rw[bL];omega
  have q0:(aX PV.s (vs.take (j+1))).length=1+j:=by rw[cj dL.s,hlr,db]
  have q1:List.take (1+j) (aX PV.s (vs.take (j+1)))=aX PV.s (vs.take (j+1)):=cl oO
  by_cases hjt:j+1<vs.length
  ·have e2:=getD_map cO vs ([]:Bytes) hjt;have hgo:=hR (j+1) oO oO;rw[aS ([]:Bytes) hjt,bU]at hgo;generalize vs.getD (j+1) []=y at e2 hgo;have e2:(vs.map cO).getD (j+1) .fn0= .agg [.s y]:=e2;have e3: ∀ _:True,((j:Int)+1).toNat=j+1:=fun _=>oO
   clear hR hlr n1 n2;refine dI (aN @q0 (aN @q1 (aN @e2 (e3 oT)))) ?_;refine hgo _ ?_
   (refine AS.Le.of (by first|decide|omega) ?_ ?_<;>simp[dC,dA,aP,ay,AV.bd,AV.bd.bdL,u8,ar,au,az])
   all_goals first|omega|exact⟨rfl,fun c hc=>by rcases hc with hc|⟨a,ha,rfl⟩;exact cL hc;rfl⟩|skip
  ·have hj2:j+1=vs.length:=oO;rw[hj2,cd]at hlr q0 q1⊢;clear hR hpos g0 hro;repeat' first|simp only[go_sem,seval,q0,q1]|refine cV n1 ?_|(refine D9 (l:=vs) (g:=PV.s) (ver:=j) (gr:=true) (el:=some 22) n2 dL.s rfl (by simp[ay]) hlr.symm ?_)|refine oE ?_|apply xX<;>intro hc
   generalize gK (gK st tQ [m,o]) Aa vs=s0 at l2⊢;clear n1 n2;refine af (α:=Nat) (fun i=>es.length-i) (fun i=>⟨[(0, .v (.s ((es.take i).foldl rB s0))),(3, .p 1000 0 0),(9,E' i)],[(1000,⟨0,[.v (.sl [.agg [.s m, .s o]]), .v (.sl (vs.map cO)), .v (.sl (es.map dx.pv))],false,none⟩)],1065⟩) (fun i=>i<=es.length) 0 (fun _=>bQ rfl) (aI _) ?_ ?_
   ·(refine AS.Le.of (by first|decide|omega) ?_ ?_<;>simp[dC,dA,aP,ay,AV.bd,AV.bd.bdL,u8,ar,au,az])
    all_goals rfl
   ·intro i hi R hR
    by_cases hit:i<es.length
    ·have e2:=getD_map dx.pv es hG hit;have hgo:=hR (i+1) oO oO;rw[pc rB s0 hG hit]at hgo;obtain⟨g1,g2,g3,nt,ht⟩:=hq _ (an hG hit);have hX:=rT (l:=es.take i) l2;generalize (es.take i).foldl rB s0=X at hgo hX⊢;generalize es.getD i hG=q at*;obtain⟨mS,tgt,ts⟩:=q;simp only at g1 g2 g3 nt ht;obtain⟨n,rfl⟩: ∃n:Nat,mS=(n:Int):=⟨mS.toNat,oO⟩;have e2:(es.map dx.pv).getD i .fn0= .agg [.i .i64 (n:Int), .s tgt, .sl (ts.map eT.pv)]:=e2;simp only[rB,Int.toNat_natCast]at hgo;have ln:=oF n;have l4:(ts.map eT.pv).length=ts.length:=aC ..;have c1:=wE n oO;have c2:=qP X Da (iw n) oO oC oO;have c3:=mW (fy X Da (iw n)) Hp [tgt] (by rw[jW];decide) oC (by simp) (by simp) (by simp;omega)
     have lS:=fb (fy X Da (iw n)) Hp [tgt];generalize gK (fy X Da (iw n)) Hp [tgt]=S0 at*;simp only[bC,bR]at c3;clear hR hq;refine uE (aN @e2 @l4) @c1 @c2 @c3 oT ?_;refine af (α:=Nat) (fun k=>ts.length-k) (fun k=>⟨[(0, .v (.s ((ts.take k).foldl rC S0))),(3, .p 1000 0 0),(9,E' i),(10, .p 1075 0 0),(11,E' k)],[(1000,⟨0,[.v (.sl [.agg [.s m, .s o]]), .v (.sl (vs.map cO)), .v (.sl (es.map dx.pv))],false,none⟩),(1075,⟨0,[.v (.i .i64 (n:Int)), .v (.s tgt), .v (.sl (ts.map eT.pv))],false,some 154⟩)],_⟩) (fun k=>k<=ts.length) 0 (fun _=>aA _) (aI _) ?_ ?_
     ·(refine AS.Le.of (by first|decide|omega) ?_ ?_<;>simp[dC,dA,aP,ay,AV.bd,AV.bd.bdL,u8,ar,au,az])
      all_goals rfl
     ·clear c1 c2 c3 e2;intro k hk R' hR'
      by_cases hkt:k<ts.length
      ·have e3:=getD_map eT.pv ts fp hkt;have hgo':=hR' (k+1) oO oO;rw[pc rC S0 fp hkt]at hgo';obtain⟨v1,v2,lb,la⟩:=ht _ (an fp hkt);have hY:=rU (l:=ts.take k) lS;generalize (ts.take k).foldl rC S0=Y at hgo' hY⊢;generalize ts.getD k fp=t at*;obtain⟨base,vr,ng,ab⟩:=t;simp only at v1 v2 lb la;obtain⟨v,rfl⟩: ∃v:Nat,vr=(v:Int):=⟨vr.toNat,oO⟩;have e3:(ts.map eT.pv).getD k .fn0= .agg [.s base, .i .i64 (v:Int), .b ng, .s ab]:=e3;simp only[rC,Int.toNat_natCast]at hgo';have lv:=oF v;have c4:=wE v oO;have c5:=qP Y Hq (iw v) oO oC oO;have c6:=mW (fy Y Hq (iw v)) FE [base] (by rw[jW];decide) oC (by simp) (by simp) (by simp;omega)
       have c7:=Ha (gK (fy Y Hq (iw v)) FE [base]) OE ng ab (by rw[fb];decide) oC oO
       simp only[bC,bR]at c6;clear hR' hgo;refine vZ (aN @e3 @l4) @c4 @c5 @c6 @c7 ?_;refine hgo' _ ?_
       (refine AS.Le.of (by first|decide|omega) ?_ ?_<;>simp[dC,dA,aP,ay,AV.bd,AV.bd.bdL,u8,ar,au,az])
       all_goals first|omega|skip
      ·have h:k=ts.length:=oO;rw[h,cd];refine dI @l4 ?_;refine hgo _ ?_
       (refine AS.Le.of (by first|decide|omega) ?_ ?_<;>simp[dC,dA,aP,ay,AV.bd,AV.bd.bdL,u8,ar,au,az])
       all_goals first|omega|skip
    ·have h:i=es.length:=oO;rw[h,cd];exact z0
theorem qR {s:cU} (hp:As c sl s):aE 84 [.agg [.s c, .s sl],s.pv,C0] (E 0):=by
 have hb:=zR hp;obtain⟨gs,vs,es⟩:=s;simp only[cU.pv]at hb⊢;refine eW call84 func84 ?_;repeat' first|simp only[go_sem,seval]|refine cP hb ?_|refine cP Ol ?_|refine oE ?_|apply xX<;>intro hc
 all_goals skip
theorem AN {s:cU} (hp:As c sl s) (hb:SF s) (hx:ctx.length<=100000) {fs:List Bytes} (f0:fs≠[]) (fe:fs.length=s.eqs.length) (fl: ∀x∈fs,x.length<=8) (fv:fs.all aa=true):
  aE 92 [.agg [.s c, .s sl], .s ctx,s.pv,C0, .sl (fs.map .s), .sl []] (.tup [N (iU (Bs ctx s fs) c),E 0]):=by
 have fn:fs.length<=900:=by rw[fe];have:=hb.ne;omega
 have fl: ∀x∈fs,x.length<=100000:=fun x hx=>by have:=fl x hx;omega
 have hr:=hp.r;have c0:c≠[]:=by
  intro h;have:=hr.c2;rw[h]at this;exact aM this oC
 have hst:=qR hp;have hv:=pq fs oO;rw[fv]at hv;have n1:=RV sy oC;have n2:=qP (mj sy) vM ctx (by rw[B5];decide) oC hx
 have n3:=VT (st:=fy (mj sy) vM ctx) (by rw[jW];decide) hb
 have n4:=qP (mO (fy (mj sy) vM ctx) s) Ho [] (by rw[yu];decide) oC oC
 have n5:=mW (fy (mO (fy (mj sy) vM ctx) s) Ho []) OF fs (by rw[jW];decide) oC f0 fn fl
 have n6:=wP (Bs ctx s fs) c (by rw[Bs,fb];decide) hr.vc c0 hr.lc
 have n5:aE 195 [.s (fy (mO (fy (mj sy) vM ctx) s) Ho []), .s OF, .sl (fs.map .s)] (.s (Bs ctx s fs)):=n5;generalize Bs ctx s fs=st5 at*;generalize mO (fy (mj sy) vM ctx) s=st3 at*;obtain⟨gq,vs,es⟩:=s;have l1:(fs.map PV.s).length=es.length:=by rw[aC];exact fe
 have l2:(es.map dx.pv).length=es.length:=aC ..;simp only[cU.pv]at n3 hst⊢;refine eW call92 func92 ?_;repeat' first|simp only[go_sem,seval,l1,l2]|refine cP hst ?_|refine cP hv ?_|refine cP n1 ?_|refine cP n2 ?_|refine cP n3 ?_|refine cP n4 ?_|refine cP n5 ?_|refine cP n6 ?_|refine cP R5 ?_|(refine ai ?_)|refine oE ?_|apply xX<;>intro hc
theorem Hc {s:cU} (hp:As c sl s) (h0:s.vars≠[]) {ch:Bytes} {rs:List (Bool×Bytes)} {gs:List Bytes} {ls:List (List (Bool×Bytes))} (h1:rs.length<1000000) (h2:gs.length<=1000) (h3:ls.length<=1000) (h4: ∀l∈ls,l.length<4611686018427387904) (hf:fP c s.vars.length ch rs gs ls≠0):
  aE 211 [.agg [.s c, .s sl],s.pv,C0,xz ch rs gs ls] (.tup [Y9,B0,E (fP c s.vars.length ch rs gs ls)]):=by
 have hst:=qR hp;have v1:=aK ch;have v2:=kP rs oO;have v4:=pq gs oO;have l1:(rs.map cT).length=rs.length:=aC ..;have l3:(gs.map PV.s).length=gs.length:=aC ..;have l4:(ls.map pY).length=ls.length:=aC ..;obtain⟨b0,hb0⟩: ∃b,b=(aa ch&&rs.all cz&&gs.all aa):=⟨_,rfl⟩;have hfe:fP c s.vars.length ch rs gs ls=if !(b0&&ls.all fun l=>l.all cz)then 3 else if rs.length≠s.vars.length\/gs≠[]\/ls≠[]then 6 else if num c<=num ch then 2 else 0:=by
  unfold fP;rw[hb0];congr 2
  cases aa ch<;>cases rs.all cz<;>cases gs.all aa<;>simp
 rw[hfe]at hf⊢;clear hfe;have hvc:b0=true->aa ch=true:=fun h=>by rw[h]at hb0;have:=hb0.symm;simp only[ba]at this;exact this.1.1
 have hcm:=po ch c;rw[hp.r.vc]at hcm;generalize aa ch=bb1 at*;generalize rs.all cz=bb2 at*;generalize gs.all aa=bb3 at*;obtain⟨gq,vs,es⟩:=s;have l2:(vs.map cO).length=vs.length:=aC ..;simp only[xz,cU.pv]at hst⊢;simp only at hf;refine eW call211 func211 ?_;repeat' first|simp only[go_sem,seval,l3]|refine cP hst ?_|refine cP v1 ?_|refine cP v2 ?_|refine cP v4 ?_|refine oE ?_|apply xX<;>intro hc
 ·refine af (α:=Nat) (fun i=>ls.length-i) (fun i=>⟨[(4, .p 1000 0 0),(5, .p 1001 0 0),(6, .p 1002 0 0),(7, .p 1003 0 0),(8, .p 1004 0 0),(9, .p 1005 0 0),(11, .p 1009 0 0),(12, .p 1010 0 0),(14, .v (.b (b0&&(ls.take i).all fun l=>l.all cz))),(15,E' i)],[(1000,⟨0,[.v (.s c), .v (.s sl)],false,none⟩),(1001,⟨0,[.v (.sl (gq.map eB)), .v (.sl (vs.map cO)), .v (.sl (es.map dx.pv))],false,none⟩),(1002,⟨0,[.v (.sl []), .v (.sl [])],false,none⟩),(1003,⟨0,[.v (.s ch), .v (.sl (rs.map cT)), .v (.sl (gs.map .s)), .v (.sl (ls.map pY))],false,none⟩),(1004,⟨0,[.sn, .v (.s []), .sn],false,some 150⟩),(1005,⟨0,[.sn, .sn],false,some 146⟩),(1009,⟨0,[.sn, .v (.s []), .sn],false,some 150⟩),(1010,⟨0,[.sn, .sn],false,some 146⟩)],1035⟩) (fun i=>i<=ls.length) 0 (fun _=>bQ rfl) (aI _) ?_ ?_
  ·(refine AS.Le.of (by first|decide|omega) ?_ ?_<;>simp[dC,dA,aP,ay,AV.bd,AV.bd.bdL,u8,ar,au,az])
   all_goals (rw[hb0];simp_all)
  ·intro i hi R hR;clear hb0 v1 v2 v4 hst
   by_cases hit:i<ls.length
   ·have e2:=getD_map pY ls ([]:List (Bool×Bytes)) hit;have hgo:=hR (i+1) oO oO;rw[aS ([]:List (Bool×Bytes)) hit,List.all_append]at hgo;have hv:=kP (ls.getD i []) (h4 _ (an [] hit));simp only[List.all_cons,List.all_nil,jK]at hgo;generalize ls.getD i []=y at e2 hgo hv;have e2:(ls.map pY).getD i .fn0= .sl (y.map cT):=e2;rw[<-Bool.and_assoc]at hgo;generalize (b0&&(ls.take i).all fun l=>l.all cz)=x at hgo⊢
    generalize y.all cz=z at hgo hv;clear hR h4 hf hvc hcm;cases x
    ·simp only[dK]at hgo;refine jm (aN @l4 @e2) @hv ?_;refine hgo _ ?_
     (refine AS.Le.of (by first|decide|omega) ?_ ?_<;>simp[dC,dA,aP,ay,AV.bd,AV.bd.bdL,u8,ar,au,az])
     all_goals first|omega|skip
    ·simp only[cr]at hgo;refine jm (aN @l4 @e2) @hv ?_;refine hgo _ ?_
     (refine AS.Le.of (by first|decide|omega) ?_ ?_<;>simp[dC,dA,aP,ay,AV.bd,AV.bd.bdL,u8,ar,au,az])
     all_goals first|omega|skip
   ·have h:i=ls.length:=oO;rw[h,cd];clear hR hit hi h4;generalize hB:(b0&&ls.all fun l=>l.all cz)=B at*
    cases B
    ·simp only[cv,ax];exact gi @l4
    ·have hch:bb1=true:=hvc (by simp only[ba]at hB;exact hB.1)
     rw[hch]at hcm;simp only[dt,ax]at hcm;simp only[bV,bu,aq]at hf⊢
     by_cases hm:rs.length≠vs.length\/gs≠[]\/ls≠[]
     ·have hm2:(if¬rs.length=vs.length\/ ¬gs=[]\/ ¬ls=[]then(6:Int)else if num c<=num ch then 2 else 0)=6:=ah hm
      rw[hm2];have hm':rs.length≠vs.length\/(rs.length=vs.length/\gs.length≠0)\/(rs.length=vs.length/\gs.length=0/\ls.length≠0):=by
       rcases hm with h|h|h
       ·exact .inl h
       ·have:gs.length≠0:=fun h0=>h (gb.1 h0)
        omega
       ·have:ls.length≠0:=fun h0=>h (gb.1 h0)
        omega
      clear hm hf hm2 hcm;rcases hm' with h|⟨h,h'⟩|⟨h,h',h''⟩
      ·exact gi (aN @l1 (aN @l2 (aN @l3 @l4)))
      ·exact gi (aN @l1 (aN @l2 (aN @l3 @l4)))
      ·exact gi (aN @l1 (aN @l2 (aN @l3 @l4)))
     ·have hm2:(if¬rs.length=vs.length\/ ¬gs=[]\/ ¬ls=[]then(6:Int)else if num c<=num ch then 2 else 0)=if num c<=num ch then 2 else 0:=ae hm
      rw[ae hm]at hf;rw[hm2];have hge:num c<=num ch:=im fun h=>hf (ae h)
      rw[ah hge];have hm':rs.length=vs.length/\gs=[]/\ls=[]:=⟨im fun h=>hm (.inl h),im fun h=>hm (.inr (.inl h)),im fun h=>hm (.inr (.inr h))⟩
      obtain⟨e1,e2,e3⟩:=hm';have e2':gs.length=0:=by rw[e2];rfl
      have e3':ls.length=0:=by rw[e3];rfl
      have h7: ∀ _:True,(0:Int)<=bc (num ch) (num c):=fun _=>fL.2 hge
      have h5: ∀ _:True,decide (bc (num ch) (num c)>=0)=true:=fun _=>aJ (h7 oT)
      generalize bc (num ch) (num c)=z at*;clear hm hf hm2;repeat' first|simp only[go_sem,seval,l1,l2,l3,l4,e2',e3',h5 oT]|refine cP qQ ?_|refine cP hcm ?_|(refine ai ?_)|refine oE ?_|apply xX<;>intro hc
      all_goals skip
 ·refine af (α:=Nat) (fun i=>ls.length-i) (fun i=>⟨[(4, .p 1000 0 0),(5, .p 1001 0 0),(6, .p 1002 0 0),(7, .p 1003 0 0),(8, .p 1004 0 0),(9, .p 1005 0 0),(11, .p 1009 0 0),(12, .p 1010 0 0),(14, .v (.b (b0&&(ls.take i).all fun l=>l.all cz))),(15,E' i)],[(1000,⟨0,[.v (.s c), .v (.s sl)],false,none⟩),(1001,⟨0,[.v (.sl (gq.map eB)), .v (.sl (vs.map cO)), .v (.sl (es.map dx.pv))],false,none⟩),(1002,⟨0,[.v (.sl []), .v (.sl [])],false,none⟩),(1003,⟨0,[.v (.s ch), .v (.sl (rs.map cT)), .v (.sl (gs.map .s)), .v (.sl (ls.map pY))],false,none⟩),(1004,⟨0,[.sn, .v (.s []), .sn],false,some 150⟩),(1005,⟨0,[.sn, .sn],false,some 146⟩),(1009,⟨0,[.sn, .v (.s []), .sn],false,some 150⟩),(1010,⟨0,[.sn, .sn],false,some 146⟩)],1035⟩) (fun i=>i<=ls.length) 0 (fun _=>bQ rfl) (aI _) ?_ ?_
  ·(refine AS.Le.of (by first|decide|omega) ?_ ?_<;>simp[dC,dA,aP,ay,AV.bd,AV.bd.bdL,u8,ar,au,az])
   all_goals (rw[hb0];simp_all)
  ·intro i hi R hR;clear hb0 v1 v2 v4 hst
   by_cases hit:i<ls.length
   ·have e2:=getD_map pY ls ([]:List (Bool×Bytes)) hit;have hgo:=hR (i+1) oO oO;rw[aS ([]:List (Bool×Bytes)) hit,List.all_append]at hgo;have hv:=kP (ls.getD i []) (h4 _ (an [] hit));simp only[List.all_cons,List.all_nil,jK]at hgo;generalize ls.getD i []=y at e2 hgo hv;have e2:(ls.map pY).getD i .fn0= .sl (y.map cT):=e2;rw[<-Bool.and_assoc]at hgo;generalize (b0&&(ls.take i).all fun l=>l.all cz)=x at hgo⊢
    generalize y.all cz=z at hgo hv;clear hR h4 hf hvc hcm;cases x
    ·simp only[dK]at hgo;refine jm (aN @l4 @e2) @hv ?_;refine hgo _ ?_
     (refine AS.Le.of (by first|decide|omega) ?_ ?_<;>simp[dC,dA,aP,ay,AV.bd,AV.bd.bdL,u8,ar,au,az])
     all_goals first|omega|skip
    ·simp only[cr]at hgo;refine jm (aN @l4 @e2) @hv ?_;refine hgo _ ?_
     (refine AS.Le.of (by first|decide|omega) ?_ ?_<;>simp[dC,dA,aP,ay,AV.bd,AV.bd.bdL,u8,ar,au,az])
     all_goals first|omega|skip
   ·have h:i=ls.length:=oO;rw[h,cd];clear hR hit hi h4;generalize hB:(b0&&ls.all fun l=>l.all cz)=B at*
    cases B
    ·simp only[cv,ax];exact gi @l4
    ·have hch:bb1=true:=hvc (by simp only[ba]at hB;exact hB.1)
     rw[hch]at hcm;simp only[dt,ax]at hcm;simp only[bV,bu,aq]at hf⊢
     by_cases hm:rs.length≠vs.length\/gs≠[]\/ls≠[]
     ·have hm2:(if¬rs.length=vs.length\/ ¬gs=[]\/ ¬ls=[]then(6:Int)else if num c<=num ch then 2 else 0)=6:=ah hm
      rw[hm2];have hm':rs.length≠vs.length\/(rs.length=vs.length/\gs.length≠0)\/(rs.length=vs.length/\gs.length=0/\ls.length≠0):=by
       rcases hm with h|h|h
       ·exact .inl h
       ·have:gs.length≠0:=fun h0=>h (gb.1 h0)
        omega
       ·have:ls.length≠0:=fun h0=>h (gb.1 h0)
        omega
      clear hm hf hm2 hcm;rcases hm' with h|⟨h,h'⟩|⟨h,h',h''⟩
      ·exact gi (aN @l1 (aN @l2 (aN @l3 @l4)))
      ·exact gi (aN @l1 (aN @l2 (aN @l3 @l4)))
      ·exact gi (aN @l1 (aN @l2 (aN @l3 @l4)))
     ·have hm2:(if¬rs.length=vs.length\/ ¬gs=[]\/ ¬ls=[]then(6:Int)else if num c<=num ch then 2 else 0)=if num c<=num ch then 2 else 0:=ae hm
      rw[ae hm]at hf;rw[hm2];have hge:num c<=num ch:=im fun h=>hf (ae h)
      rw[ah hge];have hm':rs.length=vs.length/\gs=[]/\ls=[]:=⟨im fun h=>hm (.inl h),im fun h=>hm (.inr (.inl h)),im fun h=>hm (.inr (.inr h))⟩
      obtain⟨e1,e2,e3⟩:=hm';have e2':gs.length=0:=by rw[e2];rfl
      have e3':ls.length=0:=by rw[e3];rfl
      have h7: ∀ _:True,(0:Int)<=bc (num ch) (num c):=fun _=>fL.2 hge
      have h5: ∀ _:True,decide (bc (num ch) (num c)>=0)=true:=fun _=>aJ (h7 oT)
      generalize bc (num ch) (num c)=z at*;clear hm hf hm2;repeat' first|simp only[go_sem,seval,l1,l2,l3,l4,e2',e3',h5 oT]|refine cP qQ ?_|refine cP hcm ?_|(refine ai ?_)|refine oE ?_|apply xX<;>intro hc
      all_goals skip
 ·refine af (α:=Nat) (fun i=>ls.length-i) (fun i=>⟨[(4, .p 1000 0 0),(5, .p 1001 0 0),(6, .p 1002 0 0),(7, .p 1003 0 0),(8, .p 1004 0 0),(9, .p 1005 0 0),(11, .p 1009 0 0),(12, .p 1010 0 0),(14, .v (.b (b0&&(ls.take i).all fun l=>l.all cz))),(15,E' i)],[(1000,⟨0,[.v (.s c), .v (.s sl)],false,none⟩),(1001,⟨0,[.v (.sl (gq.map eB)), .v (.sl (vs.map cO)), .v (.sl (es.map dx.pv))],false,none⟩),(1002,⟨0,[.v (.sl []), .v (.sl [])],false,none⟩),(1003,⟨0,[.v (.s ch), .v (.sl (rs.map cT)), .v (.sl (gs.map .s)), .v (.sl (ls.map pY))],false,none⟩),(1004,⟨0,[.sn, .v (.s []), .sn],false,some 150⟩),(1005,⟨0,[.sn, .sn],false,some 146⟩),(1009,⟨0,[.sn, .v (.s []), .sn],false,some 150⟩),(1010,⟨0,[.sn, .sn],false,some 146⟩)],1035⟩) (fun i=>i<=ls.length) 0 (fun _=>bQ rfl) (aI _) ?_ ?_
  ·(refine AS.Le.of (by first|decide|omega) ?_ ?_<;>simp[dC,dA,aP,ay,AV.bd,AV.bd.bdL,u8,ar,au,az])
   all_goals (rw[hb0];simp_all)
  ·intro i hi R hR;clear hb0 v1 v2 v4 hst
   by_cases hit:i<ls.length
   ·have e2:=getD_map pY ls ([]:List (Bool×Bytes)) hit;have hgo:=hR (i+1) oO oO;rw[aS ([]:List (Bool×Bytes)) hit,List.all_append]at hgo;have hv:=kP (ls.getD i []) (h4 _ (an [] hit));simp only[List.all_cons,List.all_nil,jK]at hgo;generalize ls.getD i []=y at e2 hgo hv;have e2:(ls.map pY).getD i .fn0= .sl (y.map cT):=e2;rw[<-Bool.and_assoc]at hgo;generalize (b0&&(ls.take i).all fun l=>l.all cz)=x at hgo⊢
    generalize y.all cz=z at hgo hv;clear hR h4 hf hvc hcm;cases x
    ·simp only[dK]at hgo;refine jm (aN @l4 @e2) @hv ?_;refine hgo _ ?_
     (refine AS.Le.of (by first|decide|omega) ?_ ?_<;>simp[dC,dA,aP,ay,AV.bd,AV.bd.bdL,u8,ar,au,az])
     all_goals first|omega|skip
    ·simp only[cr]at hgo;refine jm (aN @l4 @e2) @hv ?_;refine hgo _ ?_
     (refine AS.Le.of (by first|decide|omega) ?_ ?_<;>simp[dC,dA,aP,ay,AV.bd,AV.bd.bdL,u8,ar,au,az])
     all_goals first|omega|skip
   ·have h:i=ls.length:=oO;rw[h,cd];clear hR hit hi h4;generalize hB:(b0&&ls.all fun l=>l.all cz)=B at*
    cases B
    ·simp only[cv,ax];exact gi @l4
    ·have hch:bb1=true:=hvc (by simp only[ba]at hB;exact hB.1)
     rw[hch]at hcm;simp only[dt,ax]at hcm;simp only[bV,bu,aq]at hf⊢
     by_cases hm:rs.length≠vs.length\/gs≠[]\/ls≠[]
     ·have hm2:(if¬rs.length=vs.length\/ ¬gs=[]\/ ¬ls=[]then(6:Int)else if num c<=num ch then 2 else 0)=6:=ah hm
      rw[hm2];have hm':rs.length≠vs.length\/(rs.length=vs.length/\gs.length≠0)\/(rs.length=vs.length/\gs.length=0/\ls.length≠0):=by
       rcases hm with h|h|h
       ·exact .inl h
       ·have:gs.length≠0:=fun h0=>h (gb.1 h0)
        omega
       ·have:ls.length≠0:=fun h0=>h (gb.1 h0)
        omega
      clear hm hf hm2 hcm;rcases hm' with h|⟨h,h'⟩|⟨h,h',h''⟩
      ·exact gi (aN @l1 (aN @l2 (aN @l3 @l4)))
      ·exact gi (aN @l1 (aN @l2 (aN @l3 @l4)))
      ·exact gi (aN @l1 (aN @l2 (aN @l3 @l4)))
     ·have hm2:(if¬rs.length=vs.length\/ ¬gs=[]\/ ¬ls=[]then(6:Int)else if num c<=num ch then 2 else 0)=if num c<=num ch then 2 else 0:=ae hm
      rw[ae hm]at hf;rw[hm2];have hge:num c<=num ch:=im fun h=>hf (ae h)
      rw[ah hge];have hm':rs.length=vs.length/\gs=[]/\ls=[]:=⟨im fun h=>hm (.inl h),im fun h=>hm (.inr (.inl h)),im fun h=>hm (.inr (.inr h))⟩
      obtain⟨e1,e2,e3⟩:=hm';have e2':gs.length=0:=by rw[e2];rfl
      have e3':ls.length=0:=by rw[e3];rfl
      have h7: ∀ _:True,(0:Int)<=bc (num ch) (num c):=fun _=>fL.2 hge
      have h5: ∀ _:True,decide (bc (num ch) (num c)>=0)=true:=fun _=>aJ (h7 oT)
      generalize bc (num ch) (num c)=z at*;clear hm hf hm2;repeat' first|simp only[go_sem,seval,l1,l2,l3,l4,e2',e3',h5 oT]|refine cP qQ ?_|refine cP hcm ?_|(refine ai ?_)|refine oE ?_|apply xX<;>intro hc
      all_goals skip
