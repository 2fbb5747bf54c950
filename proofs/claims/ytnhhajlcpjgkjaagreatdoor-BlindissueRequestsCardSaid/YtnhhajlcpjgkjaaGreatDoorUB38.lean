/- Part of the proof. -/
import Derived.Test.YtnhhajlcpjgkjaaGreatDoorUB37
set_option linter.all false
set_option maxHeartbeats 16000000
set_option maxRecDepth 100000
namespace Go.Proofs.Tryz
open Go Go.Dom Go.Num
variable {c sl:Bytes}
theorem qL (s:cG) (hl:s.groups.length<1000000):aE 121 [s.pv] (.s (bj s.groups)):=by
 obtain⟨gs,vs,es⟩:=s;simp only at hl;have l1:(gs.map dO).length=gs.length:=aG ..;unfold cG.pv;simp only;refine eW call121 func121 ?_;refine qi ?_;refine ak (α:=Nat) (fun i=>gs.length-i) (fun i=>⟨[(1, .p 1000 0 0),(3,E' i)],[(1000,⟨0,[.v (.sl (gs.map dO)), .v (.sl (vs.map cz)), .v (.sl (es.map c9.pv))],false,none⟩)],_⟩) (fun i=>i<=gs.length/\bj (gs.drop i)=bj gs) 0 (fun _=>aD _) ⟨aO _,rfl⟩ ?_ ?_
 ·exact lE
 ·rintro i ⟨hi,hf⟩ R hR;rw[<-hf]
  by_cases hlt:i<gs.length
  ·have e1:=getD_map dO gs eV hlt;have hgo:=hR (i+1);rw[<-hf]at hgo;rw[aY eV hlt]at hgo⊢;obtain⟨x,hx⟩: ∃x,x=gs.getD i eV:=⟨_,rfl⟩;rw[<-hx]at e1 hgo⊢;clear hx hf hR;obtain⟨m,o⟩:=x;simp only[bj]at hgo⊢;simp only[dO]at e1
   by_cases ho:o=[]
   ·subst ho;simp only[aB]at hgo⊢;have hgo:=hgo ⟨oO,trivial⟩ oO;exact jr (aN @l1 (aN @e1 @nn)) @hgo
   ·have hb:(o==([]:Bytes))=false:=by simpa using ho
    rw[af ho];exact fP (aN @l1 (aN @e1 @hb))
  ·obtain rfl:i=gs.length:=oO;rw[dj];exact fP @l1
theorem PF {α:Type} {p:α->Bool} {l:List α} {i:Nat} (d:α) (h:i<l.length):(l.take (i+1)).any p=((l.take i).any p||p (l.getD i d)):=by
 rw[aL d h,List.any_append];simp
theorem JH {s:cG} (hs:xl s):aE 453 [s.pv] (.b true):=by
 have hk:=hs.k;have hor:=qL s (by have:=hs.ng;omega)
 obtain⟨gs,vs,es⟩:=s;obtain⟨-,hg,hv,hq,ng,nv,ne,-⟩:=hs;simp only at hg hv hq ng nv ne;have l1:(gs.map dO).length=gs.length:=aG ..;have l2:(vs.map cz).length=vs.length:=aG ..;have l3:(es.map c9.pv).length=es.length:=aG ..;unfold C4 at hk;simp only at hk hor;unfold cG.pv at*;simp only at*;refine eW call453 func453 ?_;refine qi ?_;refine ak (α:=Nat) (fun i=>vs.length-i) (fun i=>⟨[(1, .p 1000 0 0),(3, .v (.b ((vs.take i).any fun b=>b==[]))),(4,E' i)],[(1000,⟨0,[.v (.sl (gs.map dO)), .v (.sl (vs.map cz)), .v (.sl (es.map c9.pv))],false,none⟩)],_⟩) (fun i=>i<=vs.length) 0 (fun _=>aD _) (aO _) ?_ ?_
 ·exact lE
 ·intro i hi R hR
  by_cases hlt:i<vs.length
  ·have e1:=getD_map cz vs [] hlt;have hgo:=hR (i+1) oO oO;rw[PF [] hlt]at hgo;generalize (vs.take i).any (fun b=>b==[])=b1 at*
   generalize vs.getD i []=x at*;clear hR hk;simp only[cz]at e1;cases b1
   ·rw[jX]at hgo;exact jr (aN @l2 @e1) @hgo
   ·rw[nT]at hgo;exact jr (aN @l2 @e1) @hgo
  ·obtain rfl:i=vs.length:=oO;rw[cl]
   cases hb:vs.any (fun b=>b==[])with
   |false=>
    exact fP @l2
   |true=>
    rw[hb]at hk;simp only[cr,jX,aZ,ey]at hk;obtain⟨⟨hk1,hk2⟩,hk3⟩:=hk;generalize bj gs=q at*;clear hR hb;refine m9 (aN @l2 @hk1) @hor ?_;refine ak (α:=Nat) (fun i=>gs.length-i) (fun i=>⟨[(1, .p 1000 0 0),(5, .v (.s q)),(6,E' i)],[(1000,⟨0,[.v (.sl (gs.map dO)), .v (.sl (vs.map cz)), .v (.sl (es.map c9.pv))],false,none⟩)],_⟩) (fun i=>i<=gs.length) 0 (fun _=>aD _) (aO _) ?_ ?_
    ·exact lE
    ·intro i hi R hR
     by_cases hlt:i<gs.length
     ·have e1:=getD_map dO gs eV hlt;have hgo:=hR (i+1) oO oO;have ho:FB q (gs.getD i eV)=false:=by
       have:=nR.1 hk2 _ (au eV hlt);simpa using this
      obtain⟨x,hx⟩: ∃x,x=gs.getD i eV:=⟨_,rfl⟩;rw[<-hx]at e1 ho;clear hR hx hk2 hk3;obtain⟨m,o⟩:=x;simp only[dO,FB]at e1 ho
      by_cases h0:(o==([]:Bytes))=true
      ·exact jr (aN @l1 (aN @e1 @h0)) @hgo
      ·have h0:(o==([]:Bytes))=false:=by simpa using h0
       have h1:(o==q)=true:=by rw[h0]at ho;simpa using ho
       exact jr (aN @l1 (aN @e1 (aN @h0 @h1))) @hgo
     ·obtain rfl:i=gs.length:=oO;clear hR;refine dH @l1 ?_;refine ak (α:=Nat) (fun i=>es.length-i) (fun i=>⟨[(1, .p 1000 0 0),(7,E' i)],[(1000,⟨0,[.v (.sl (gs.map dO)), .v (.sl (vs.map cz)), .v (.sl (es.map c9.pv))],false,none⟩)],_⟩) (fun i=>i<=es.length) 0 (fun _=>aD _) (aO _) ?_ ?_
      ·exact lE
      ·intro i hi R hR
       by_cases hlt:i<es.length
       ·have e1:=getD_map c9.pv es fJ hlt;obtain⟨q1,q2,-,q4,q5⟩:=hq _ (au fJ hlt);have hbq:=bH.1 hk3 _ (au fJ hlt);have hgo:=hR (i+1) oO oO;obtain⟨x,hx⟩: ∃x,x=es.getD i fJ:=⟨_,rfl⟩;rw[<-hx]at e1 q1 q2 q4 q5 hbq;obtain⟨gr,tg,ts⟩:=x;simp only at q1 q2 q4 q5;have hgl:gr.toNat<gs.length:=oO;have e3:=getD_map dO gs eV hgl;have hbb:Kb gs vs ⟨gr,tg,ts⟩=((gs.getD gr.toNat eV).2==[]&&ts.any (xt vs)):=rfl;rw[hbb]at hbq;obtain⟨z,hz⟩: ∃z,z=gs.getD gr.toNat eV:=⟨_,rfl⟩;rw[<-hz]at e3 hbq;obtain⟨m,o⟩:=z;simp only at hbq;have l4:(ts.map dM.pv).length=ts.length:=aG ..;simp only[c9.pv]at e1;simp only[dO]at e3;clear hR hx hz hbb;refine dH (aN @l3 @e1) ?_;refine ak (α:=Nat) (fun i=>ts.length-i) (fun j=>⟨[(1, .p 1000 0 0),(7,E' i),(8, .p 1033 0 0),(9,E' j)],[(1000,⟨0,[.v (.sl (gs.map dO)), .v (.sl (vs.map cz)), .v (.sl (es.map c9.pv))],false,none⟩),(1033,⟨0,[.v (.i .i64 gr), .v (.s tg), .v (.sl (ts.map dM.pv))],false,some 184⟩)],_⟩) (fun i=>i<=ts.length) 0 (fun _=>aD _) (aO _) ?_ ?_
        ·exact lE
        ·intro j hj R' hR'
         by_cases hjt:j<ts.length
         ·have e2:=getD_map dM.pv ts dE hjt;obtain⟨t1,t2,-,-⟩:=q5 _ (au dE hjt);have hgo':=hR' (j+1) oO oO;have hbt:((o==[])&&xt vs (ts.getD j dE))=false:=by
           cases h0:(o==([]:Bytes))with
           |false=>rfl
           |true=>
            rw[h0]at hbq;have h2:ts.any (xt vs)=false:=by simpa using hbq
            have:=nR.1 h2 _ (au dE hjt);simpa using this
          obtain⟨y,hy⟩: ∃y,y=ts.getD j dE:=⟨_,rfl⟩;rw[<-hy]at e2 t1 t2 hbt;obtain⟨b,v,n,a⟩:=y;simp only at t1 t2;have e4:=getD_map cz vs [] (i:=v.toNat) oO;simp only[xt]at hbt;simp only[dM.pv]at e2;clear hR' hy hbq q5;generalize vs.getD v.toNat []=u at*;simp only[cz]at e4;generalize h0:(o==([]:Bytes))=p0 at*;generalize h1:(u==([]:Bytes))=p1 at*;cases p1
          ·refine eJ (aN @l2 (aN @l4 (aN @e2 (aN @e4 @h1)))) ?_;refine hgo' _ ?_;exact lE
          ·have h0:(o==([]:Bytes))=false:=by rw[h0];simpa using hbt
           refine eJ (aN @l1 (aN @l2 (aN @l4 (aN @e2 (aN @e3 (aN @e4 (aN @h1 @h0))))))) ?_;refine hgo' _ ?_;exact lE
         ·obtain rfl:j=ts.length:=oO;exact jr (aN @l3 @l4) @hgo
       ·obtain rfl:i=es.length:=oO;exact fP @l3
theorem Lx {s:cG} (hs:xl s):aE 369 [s.pv] (E 0):=by
 have h1:=Av hs.m fun b hb=>(hs.v b hb).1
 have h2:=Gd hs.m;have h3:=um hs.m;have h4:=JH hs;clear hs;have h5:aE 373 [s.pv] (E 0):=by
  unfold cG.pv at*;refine eW call373 func373 ?_;exact z4 @h2 @h3 @h4 oT
 unfold cG.pv at*;refine eW call369 func369 ?_;exact z2 @h1 @h5
theorem Cj {s:cG} (hs:xl s) {w:List (Bool×Bytes)} (hw:w.length<1000000):aE 241 [s.pv, .sl (w.map cI)] (E (if !(w.all cg)then 3 else if w.length≠s.vars.length then 6 else 0)):=by
 have h2:=Gd hs.m;have h3:=um hs.m;have h4:=JH hs;have h5:aE 373 [s.pv] (E 0):=by
  unfold cG.pv at*;refine eW call373 func373 ?_;exact z4 @h2 @h3 @h4 oT
 exact F7 (Av hs.m fun b hb=>(hs.v b hb).1) h5 hw
theorem pB {s:cG} (hp:u7 c sl s):aE 238 [.agg [.s c, .s sl],s.pv] (.tup [.sl (s.vars.map fun b=>N (lM (bj s.groups) c sl b)), .sl (s.vars.map fun b=>N (lR (bj s.groups) c sl b)),E 0]):=by
 have hr:=hp.r;have hs:=hp.g;have hm:=hp.m;have hck:=Lx hs;have hoV:=dc hs.g;clear hp;have hor:=qM s (by have:=hs.ng;omega)
 have v1:=aH c;have v2:=aH sl;rw[hr.vc]at v1;rw[hr.vs]at v2;have lc:=hr.lc;have lsl:=hr.ls;have c1:=fR (a:=c) (b:=[2]) (bL hr.vc) (.inr oC) oO oC;have c2:=fR (a:=sl) (b:=[2]) (bL hr.vs) (.inr oC) oO oC;rw[show num ([2]:Bytes)=2 from rfl]at c1 c2
 have d1: ∀ _:True,decide (aW (num c) 2<0)=false:=fun _=>bu (fun g=>by have:=fx.1 g;have:=hr.c2;omega)
 have d2: ∀ _:True,decide (aW (num sl) 2<0)=false:=fun _=>bu (fun g=>by have:=fx.1 g;have:=hr.s2;omega)
 generalize aW (num c) 2=cm1 at*;generalize aW (num sl) 2=cm2 at*;have nv:=hs.nv;have hv:=hs.v;obtain⟨gs,vs,es⟩:=s;simp only at*;generalize bj gs=q at*;clear hs;have c3:=fR (a:=c) (b:=q) (bL hr.vc) (bL hoV.1) oO oO;have d3: ∀b∈vs,b=[]->decide (aW (num c) (num q)>0)=false:=fun b hb h=>bu fun g=>by
  have:=hm b hb h;unfold aW at g
  split at g
  ·omega
  ·split at g<;>omega
 generalize aW (num c) (num q)=cm3 at*;have l2:(vs.map cz).length=vs.length:=aG ..;unfold cG.pv at*;simp only at*;have hM:cU (fun b=>N (lM q c sl b)) 1:=⟨fun _=>rfl,fun _ y hy=>by cases fz.1 hy;rfl,fun _ _=>rfl,fun h=>aP rfl h⟩
 have hR0:cU (fun b=>N (lR q c sl b)) 1:=⟨fun _=>rfl,fun _ y hy=>by cases fz.1 hy;rfl,fun _ _=>rfl,fun h=>aP rfl h⟩
 have row1: ∀{i:Nat},i<vs.length->aT (fun b=>N (lM q c sl b)) (vs.take (i+1))=aT (fun b=>N (lM q c sl b)) (vs.take i)++[.v (N (lM q c sl (vs.getD i [])))]:=fun h=>by
  rw[aL [] h,bT];rfl
 have LK: ∀{i:Nat},i<vs.length->aT (fun b=>N (lR q c sl b)) (vs.take (i+1))=aT (fun b=>N (lR q c sl b)) (vs.take i)++[.v (N (lR q c sl (vs.getD i [])))]:=fun h=>by
  rw[aL [] h,bT];rfl
 have rn1:aT (fun b=>N (lM q c sl b)) []=[]:=rfl
 have rn2:aT (fun b=>N (lR q c sl b)) []=[]:=rfl
 have t1:=ru sl c oO oO;have s1:=mC c [1] oO oC (by have:=hr.c2;show 1<=num c;omega)
 rw[show num ([1]:Bytes)=1 from rfl]at s1
 have llim: ∀{x:Nat},x<da->(bQ x).length<1048576:=fun h=>by have:=jc.2 h;omega
 have h64:=kW;have hnc:=dS lc;have hns:=dS lsl;have hAl:num sl*num c<da:=br (fO hns hnc) (by unfold da;decide+kernel)
 have tt: ∀{b:Bytes},aa b=true->b≠[]->b.length<=16->aE 359 [N (num sl*num c), .s b] (N (qA c sl b))/\aE 230 [.s b, .s [1]] (N (num b-1))/\aE 359 [N (num c-1),N (num b-1)] (N ((num c-1)*(num b-1)))/\aE 44 [N (qA c sl b)] (.b true)/\aE 230 [N (qA c sl b),N ((num c-1)*(num b-1))] (N (Od c sl b)):=by
  intro b vb hb lb;have hb0:=nB (bL vb) hb;have hb16:=Fz lb;have hw:=xD;have hML:=xM hr lb;have hle:=Oe (b:=b) hr;have u1:=Dp (x:=num sl*num c) (y:=num b) (llim hAl) (llim oO);rw[dN vb]at u1;have u2:=mC b [1] oO oC hb0;rw[show num ([1]:Bytes)=1 from rfl]at u2
  have u3:=Dp (x:=num c-1) (y:=num b-1) (llim oO) (llim oO);have u4:=aH (bQ (qA c sl b));rw[vB hML]at u4;have u5:=xS (x:=qA c sl b) (y:=(num c-1)*(num b-1)) (by have:=llim hML;omega) (by have:=llim (show(num c-1)*(num b-1)<da by omega);omega) hle
  exact⟨u1,u2,u3,u4,u5⟩
 have tt2: ∀{b:Bytes},aa b=true->b≠[]->b.length<=16->aE 359 [N (num sl*num c), .s b] (N (lM q c sl b))/\aE 230 [.s b, .s [1]] (N (num b-1))/\aE 359 [N (num c-1),N (num b-1)] (N ((num c-1)*(num b-1)))/\aE 44 [N (lM q c sl b)] (.b true)/\aE 230 [N (lM q c sl b),N ((num c-1)*(num b-1))] (N (lR q c sl b)):=by
  intro b vb hb lb;have:=tt vb hb lb
  rwa[<-show lM q c sl b=qA c sl b by rw[lM,af hb],<-show lR q c sl b=Od c sl b by rw[lR,af hb]]at this
 clear tt hAl llim;refine eW call238 func238 ?_;refine P8 (aN (d1 oT) (d2 oT)) @v1 @v2 @hck @c1 @c2 @hor oT ?_;refine ak (α:=Nat) (fun i=>vs.length-i) (fun i=>⟨[(2, .p 1000 0 0),(3, .p 1001 0 0),(8, .v (.s q)),(9,E' i)],[(1000,⟨0,[.v (.s c), .v (.s sl)],false,none⟩),(1001,⟨0,[.v (.sl (gs.map dO)), .v (.sl (vs.map cz)), .v (.sl (es.map c9.pv))],false,none⟩)],_⟩) (fun i=>i<=vs.length) 0 (fun _=>aD _) (aO _) ?_ ?_
 ·exact lE
 ·intro i hi R hR
  by_cases hlt:i<vs.length
  ·have e1:=getD_map cz vs [] hlt;have hgo:=hR (i+1) oO oO;have d3:=d3 _ (au [] hlt);generalize vs.getD i []=x at*;clear hR;simp only[cz]at e1
   by_cases hb:x=[]
   ·have d3:=d3 hb;subst hb;exact js (aN @l2 (aN @e1 (aN @nn @d3))) @hgo @c3
   ·have kb:(x==([]:Bytes))=false:=by simpa using hb
    exact jr (aN @l2 (aN @e1 @kb)) @hgo
  ·obtain rfl:i=vs.length:=oO;clear hR d3 c3
   by_cases hpos:0<vs.length
   rotate_left
   ·obtain rfl:vs=[]:=eH.1 oO;exact Tk @l2
   refine dH @l2 ?_;refine aj ?_;have e1:=getD_map cz vs [] hpos;have r1:=row1 hpos;have r2:=LK hpos;have kk:=hv _ (au [] hpos);have hcs:(vs.getD 0 []=[]/\N (lM q c sl (vs.getD 0 []))= .s q/\N (lR q c sl (vs.getD 0 []))= .s q)\/(vs.getD 0 []≠[]/\aE 359 [N (num sl*num c), .s (vs.getD 0 [])] (N (lM q c sl (vs.getD 0 [])))/\aE 230 [.s (vs.getD 0 []), .s [1]] (N (num (vs.getD 0 [])-1))/\aE 359 [N (num c-1),N (num (vs.getD 0 [])-1)] (N ((num c-1)*(num (vs.getD 0 [])-1)))/\aE 44 [N (lM q c sl (vs.getD 0 []))] (.b true)/\aE 230 [N (lM q c sl (vs.getD 0 [])),N ((num c-1)*(num (vs.getD 0 [])-1))] (N (lR q c sl (vs.getD 0 [])))):=by
    by_cases h:vs.getD 0 []=[]
    ·refine .inl ⟨h,?_,?_⟩
     ·rw[lM,ah h];exact dN hoV.1
     ·rw[lR,ah h];exact dN hoV.1
    ·exact .inr ⟨h,tt2 kk.1 h kk.2⟩
   clear kk;generalize lM q c sl (vs.getD 0 [])=A at*;generalize lR q c sl (vs.getD 0 [])=B at*;generalize vs.getD 0 []=b at*;simp only[cz]at e1;rcases hcs with⟨hb,hA,hB⟩|⟨hb,u1,u2,u3,u4,u5⟩
   rotate_left
   have kb:(b==([]:Bytes))=false:=by simpa using hb
   repeat' first|simp only[go_sem,seval,l2,e1,kb]|refine cP t1 ?_|refine cP u1 ?_|refine cP s1 ?_|refine cP u2 ?_|refine cP u3 ?_|refine cP u4 ?_|refine cP u5 ?_|refine oE ?_|apply xX<;>intro hc
   rotate_left
   rw[hA]at r1;rw[hB]at r2;have kb:(b==([]:Bytes))=true:=by simpa using hb
   repeat' first|simp only[go_sem,seval,l2,e1,kb]|refine oE ?_|apply xX<;>intro hc
   all_goals
    obtain⟨nm,hnm⟩: ∃nm,nm=(if b=[]then 1059 else 1077):=⟨_,rfl⟩
    obtain⟨nn',hnn⟩: ∃nn',nn'=(if b=[]then 1063 else 1083):=⟨_,rfl⟩
    obtain⟨nx',hnx⟩: ∃nx',nx'=(if b=[]then 1069 else 1089):=⟨_,rfl⟩
    first|rw[ah hb]at hnm hnn hnx|rw[af hb]at hnm hnn hnx
    refine ak (α:=Nat) (fun j=>vs.length-(j+1)) (fun j=>⟨[(2, .p 1000 0 0),(3, .p 1001 0 0),(8, .v (.s q)),(10, .rs nm j 0 (j+1) 1),(11, .rs nn' j 0 (j+1) 1),(12,E' (j+1))],[(1000,⟨0,[.v (.s c), .v (.s sl)],false,none⟩),(1001,⟨0,[.v (.sl (gs.map dO)), .v (.sl (vs.map cz)), .v (.sl (es.map c9.pv))],false,none⟩),(nm,⟨j,aT (fun b=>N (lM q c sl b)) (vs.take (j+1)),true,some 22⟩),(nn',⟨j,aT (fun b=>N (lR q c sl b)) (vs.take (j+1)),true,some 22⟩)],nx'⟩) (fun j=>j+1<=vs.length) 0 (fun _=>by show _<=nx';rw[hnx];exact dr rfl) hpos ?_ ?_<;>subst hnm hnn hnx
    ·rw[ew,r1,r2,List.take_zero,rn1,rn2];exact lE
    ·first|clear u1 u2 u3 u4 u5|clear hA hB
     clear e1 kb r1 r2 hb;intro j hj R hR;have hj1:(vs.take (j+1)).length=j+1:=by rw[cd];omega
     have q1:=cf hM (vs.take (j+1));have q2:=ct hM (vs.take (j+1));have q5:=cf hR0 (vs.take (j+1));have q6:=ct hR0 (vs.take (j+1));rw[hj1,dG]at q1 q2 q5 q6
     by_cases hlt:j+1<vs.length
     ·have hgo:=hR (j+1) oO oO;clear hR;have e1:=getD_map cz vs [] hlt;have r1:=row1 hlt;have r2:=LK hlt;have kk:=hv _ (au [] hlt);have hcs:(vs.getD (j+1) []=[]/\N (lM q c sl (vs.getD (j+1) []))= .s q/\N (lR q c sl (vs.getD (j+1) []))= .s q)\/(vs.getD (j+1) []≠[]/\aE 359 [N (num sl*num c), .s (vs.getD (j+1) [])] (N (lM q c sl (vs.getD (j+1) [])))/\aE 230 [.s (vs.getD (j+1) []), .s [1]] (N (num (vs.getD (j+1) [])-1))/\aE 359 [N (num c-1),N (num (vs.getD (j+1) [])-1)] (N ((num c-1)*(num (vs.getD (j+1) [])-1)))/\aE 44 [N (lM q c sl (vs.getD (j+1) []))] (.b true)/\aE 230 [N (lM q c sl (vs.getD (j+1) [])),N ((num c-1)*(num (vs.getD (j+1) [])-1))] (N (lR q c sl (vs.getD (j+1) [])))):=by
       by_cases h:vs.getD (j+1) []=[]
       ·refine .inl ⟨h,?_,?_⟩
        ·rw[lM,ah h];exact dN hoV.1
        ·rw[lR,ah h];exact dN hoV.1
       ·exact .inr ⟨h,tt2 kk.1 h kk.2⟩
      clear kk;generalize lM q c sl (vs.getD (j+1) [])=A at*;generalize lR q c sl (vs.getD (j+1) [])=B at*;generalize vs.getD (j+1) []=b at*;simp only[cz]at e1;rcases hcs with⟨hb,hA,hB⟩|⟨hb,u1,u2,u3,u4,u5⟩
      ·rw[hA]at r1;rw[hB]at r2;rw[r1,r2]at hgo;have kb:(b==([]:Bytes))=true:=by simpa using hb
       refine eJ (aN @l2 (aN @e1 (aN @kb (aN @q1 (aN @q2 (aN @q5 @q6)))))) ?_;refine hgo _ ?_
       (refine AS.Le.of (by first|decide|omega) ?_ ?_<;>simp[dw,du,aS,aC,AV.bd,AV.bd.bdL,u8,an,ar,aA])
       all_goals (refine⟨?_,?_⟩<;>(intro c hc;rcases hc with h|h<;>first|exact cv h|(subst h;rfl)))
      ·rw[r1,r2]at hgo;have kb:(b==([]:Bytes))=false:=by simpa using hb
       refine aab (aN @l2 (aN @e1 (aN @kb (aN @q1 (aN @q2 (aN @q5 @q6)))))) @t1 @u1 @s1 @u2 @u3 @u4 @u5 ?_;refine hgo _ ?_
       (refine AS.Le.of (by first|decide|omega) ?_ ?_<;>simp[dw,du,aS,aC,AV.bd,AV.bd.bdL,u8,an,ar,aA])
       all_goals (refine⟨?_,?_⟩<;>(intro c hc;rcases hc with h|h<;>first|exact cv h|(subst h;rfl)))
     ·obtain hjv:j+1=vs.length:=oO;rw[hjv,cl]at q1 q2 q5 q6;rw[hjv,cl];have q3:=dY hM vs;have q4:chunk 1 vs.length (List.flatMap (fun x=>[PV.s (bQ (lM q c sl x))]) vs)=vs.map fun b=>N (lM q c sl b):=de hM vs
      have q7:=dY hR0 vs;have q8:chunk 1 vs.length (List.flatMap (fun x=>[PV.s (bQ (lR q c sl x))]) vs)=vs.map fun b=>N (lR q c sl b):=de hR0 vs
      exact fP (aN @l2 (aN @q1 (aN @q2 (aN @q3 (aN @q4 (aN @q5 (aN @q6 (aN @q7 (aN @q8 @ek)))))))))
theorem wj {s:cG} {i:Nat} (hi:i<s.vars.length) {x:Int} (hx:x.natAbs<da) {L:Nat} (hL:L<da):aE 258 [s.pv,E i,Zp x,N L] (.b (fM (s.vars.getD i []) x L)):=by
 have hz:=og hx;simp only[fQ,cg,aZ]at hz;have hla:=dI hz.1;have hc:=fR (a:=zb x) (b:=bQ L) (bL hz.1) (fA L) oO (by have:=jc.2 hL;omega)
 rw[ba,qE]at hc;have hd: ∀ _:True,decide (aW x.natAbs L<0)=decide (x.natAbs<L):=fun _=>by rw[cX];simp only[bw];exact fx
 have e1:=getD_map cz s.vars [] hi;have l2:(s.vars.map cz).length=s.vars.length:=aG ..;have hzs:zs x=decide (x<0):=rfl;unfold fM;simp only[Zp,cI,fQ,hzs];generalize aW x.natAbs L=cm at*;generalize s.vars.getD i []=b at*;have hbb:(b==([]:Bytes))=decide (b=[]):=by rw[cX,eD,bw]
 generalize decide (x.natAbs<L)=p at*;generalize decide (x<0)=q at*;generalize decide (b=[])=b0 at*;simp only[cz]at e1;clear hz hla hzs;unfold cG.pv
 cases p<;>cases b0<;>cases q<;>
 ·refine eW call258 func258 ?_;repeat' first|simp only[go_sem,seval,hbb,bne,hd oT,l2,e1]|refine cP hc ?_|refine oE ?_|apply xX<;>intro hc
  all_goals rfl
theorem HS {s:cG} (hs:xl s) {i:Nat} (hi:i<s.vars.length) {a b:Int} {c:Nat} (h:a.natAbs+((c:Int)*b).natAbs<da) (hc:c<da) (hbl:b.natAbs<da) (h0:s.vars.getD i []=[]->0<=a/\0<=b):aE 259 [s.pv,E i,Z a,N c,Z b] (Z (gv (bj s.groups) (s.vars.getD i []) a b c)):=by
 have hp:=Pg h hc hbl;have e1:=getD_map cz s.vars [] hi;have l2:(s.vars.map cz).length=s.vars.length:=aG ..;have hor:=qM s (by have:=hs.ng;omega)
 have hoV:=dc hs.g;have hzl:(a+(c:Int)*b).natAbs<da:=by have:=yb a (c*b);omega
 have hK:=fun hv=>ua hs hv
 have hmem:=au [] hi;unfold gv
 by_cases hb:s.vars.getD i []=[]
 ·rw[ah hb];have ho:=hK (by rw[<-hb];exact hmem)
  have hpo:0<num (bj s.groups):=Nat.pos_of_ne_zero (zU hoV.1 ho);obtain⟨ha0,hb0⟩:=h0 hb;have hz0:0<=a+(c:Int)*b:=by have:=Int.mul_nonneg (Int.natCast_nonneg c) hb0;omega
  have hm:=rm hzl (zR hoV.2) hpo;rw[dN hoV.1,show N (a+(c:Int)*b).natAbs= .s (zb (a+c*b))from rfl]at hm
  have hres:(.agg [.b false,N ((a+(c:Int)*b).natAbs%num (bj s.groups))]:PV)=Z ((a+c*b)%num (bj s.groups)):=by
   have e:(a+(c:Int)*b)%num (bj s.groups)=(((a+(c:Int)*b).natAbs%num (bj s.groups):Nat):Int):=by
    rw[Int.natCast_emod,Int.natAbs_of_nonneg hz0]
   rw[e,Z,lW,lV]
  rw[<-hres];have hbb:(s.vars.getD i []==([]:Bytes))=true:=by simpa using hb
  generalize s.vars.getD i []=u at*;generalize a+(c:Int)*b=z at*;generalize bj s.groups=oq at*;simp only[cz]at e1;clear hs h hc hbl h0 hK hmem hres hoV hzl hpo ho;unfold cG.pv at*;refine eW call259 func259 ?_;repeat' first|simp only[go_sem,seval,Z,hbb,l2,e1]|refine cP hp ?_|refine cP hor ?_|refine cP hm ?_|refine oE ?_|apply xX<;>intro hc
  all_goals rfl
 ·rw[af hb];have hbb:(s.vars.getD i []==([]:Bytes))=false:=by simpa using hb
  generalize s.vars.getD i []=u at*;generalize a+(c:Int)*b=z at*;simp only[cz]at e1;unfold cG.pv;refine eW call259 func259 ?_;repeat' first|simp only[go_sem,seval,Z,hbb,l2,e1]|refine cP hp ?_|refine oE ?_|apply xX<;>intro hc
  all_goals rfl
theorem Pk {s:cG} (hs:xl s) {w:List Int} (hwl:w.length=s.vars.length) (hw: ∀x∈w,x.natAbs<da) (hin:tY (bj s.groups) s.vars w=true):aE 257 [s.pv, .sl (w.map Zp)] (.b true):=by
 have hv:=hs.v;have nv:=hs.nv;have hB:=fun(i:Nat) (hi:i<s.vars.length) (x:Int) (hx:x.natAbs<da) (L:Nat) (hL:L<da)=>wj (s:=s) hi hx hL
 have hor:=qM s (by have:=hs.ng;omega)
 have hoV:=dc hs.g;obtain⟨gs,vs,es⟩:=s;simp only at hv hwl nv hB hin hor hoV;generalize bj gs=oq at*;have l2:(vs.map cz).length=vs.length:=aG ..;have l5:(w.map Zp).length=vs.length:=by rw[aG];exact hwl
 unfold cG.pv at*;simp only at*;refine eW call257 func257 ?_;refine dH @l5 ?_;refine ak (α:=Nat) (fun i=>vs.length-i) (fun i=>⟨[(1, .v (.sl (w.map Zp))),(2, .p 1000 0 0),(5,E' i)],[(1000,⟨0,[.v (.sl (gs.map dO)), .v (.sl (vs.map cz)), .v (.sl (es.map c9.pv))],false,none⟩)],_⟩) (fun i=>i<=vs.length) 0 (fun _=>aD _) (aO _) ?_ ?_
 ·exact lE
 ·intro i hi R hR
  by_cases hlt:i<vs.length
  ·have e1:=getD_map cz vs [] hlt;have e2:=getD_map Zp w 0 (i:=i) oO;have kb:=hv _ (au [] hlt);have kw:=hw _ (au 0 (show i<w.length by omega))
   have hgo:=hR (i+1) oO oO;have hlt2:=CY hin hlt;have hc:=hB i hlt _ kw (dV oq (vs.getD i [])) (by unfold dV;split;exact zR hoV.2;exact jL kb.1)
   rw[hlt2]at hc;have hbl:(vs.getD i []=[]/\N (dV oq (vs.getD i []))= .s oq)\/(vs.getD i []≠[]/\N (dV oq (vs.getD i []))= .s (vs.getD i [])):=by
    by_cases h:vs.getD i []=[]
    ·exact .inl ⟨h,by rw[dV,ah h];exact dN hoV.1⟩
    ·exact .inr ⟨h,by rw[dV,af h];exact dN kb.1⟩
   clear hR hin hs hB hlt2 kb kw;generalize N (dV oq (vs.getD i []))=lm at*;generalize vs.getD i []=b at*;generalize w.getD i 0=x at*;simp only[cz]at e1;simp only[Zp,cI,fQ]at e2 hc;have hbb:(b==([]:Bytes))=decide (b=[]):=by rw[cX,eD,bw]
   rcases hbl with⟨hb,rfl⟩|⟨hb,rfl⟩
   all_goals
    first|rw[aU hb]at hbb|rw[bu hb]at hbb
    exact uZ (aN @l2 (aN @l5 (aN @e1 (aN @e2 @hbb)))) @hgo @hor @hc
  ·obtain rfl:i=vs.length:=oO;exact fP @l5
theorem LC {s:cG} (hpp:u7 c sl s) {w ms:List Int} {ch:Nat} (hwl:w.length=s.vars.length) (hml:ms.length=s.vars.length) (hch:ch<num c) (hW:tY (bj s.groups) s.vars w=true) (hM: ∀i,i<s.vars.length->fM (s.vars.getD i []) (ms.getD i 0) (lM (bj s.groups) c sl (s.vars.getD i []))=true):
  aE 127 [.agg [.s c, .s sl],s.pv, .sl (w.map Zp), .sl (ms.map Zp),N ch] (xz (bj s.groups) c sl s.vars (dA (bj s.groups) s.vars ms w ch)):=by
 have hr:=hpp.r;have hs:=hpp.g;have hb:=hs.v;have nv:=hs.nv;have hoV:=dc hs.g;have lo:=hoV.2;have hbo:=pB hpp;have c8:=dS hr.lc;have h64:=kW;have h33:256^33+(2^64)*dP+(2^64)<da:=by unfold da dP;decide+kernel
 have hwb: ∀i,i<s.vars.length->(w.getD i 0).natAbs<dP:=fun i hi=>br (po (CY hW hi)).1 (ER lo (hb _ (au [] hi)).2)
 have hmb: ∀i,i<s.vars.length->(ms.getD i 0).natAbs<256^33:=fun i hi=>jn (po (hM i hi)).1 (C5 hr lo (hb _ (au [] hi)).2)
 have hwA: ∀x∈w,x.natAbs<da:=C8 hwl fun i hi=>br (hwb i hi) xD
 have hmA: ∀x∈ms,x.natAbs<da:=C8 hml fun i hi=>by have:=hmb i hi;omega
 have hv1:=uq (w.map fQ) (by rw[aG];omega)
 have hv2:=uq (ms.map fQ) (by rw[aG];omega)
 have hrg:=Pk hs hwl hwA hW;rw[Qg,l8 hwA]at hv1;rw[Qg,l8 hmA]at hv2;have hn:=aH (bQ ch);rw[vB oO]at hn;have hl2: ∀n,n<da->(bQ n).length<1099511627776:=fun n hn=>by have:=jc.2 hn;omega
 have hcm:=xT (x:=ch) (y:=num c) (hl2 _ oO) (hl2 _ oO);rw[dN hr.vc]at hcm;have hd: ∀ _:True,decide (aW ch (num c)>=0)=false:=fun _=>by rw[Fm,aU hch];rfl
 have hI: ∀i,i<s.vars.length->(w.getD i 0).natAbs<da/\(ms.getD i 0).natAbs+((ch:Int)*w.getD i 0).natAbs<da/\(s.vars.getD i []=[]->0<=ms.getD i 0/\0<=w.getD i 0):=fun i hi=>by
  have h1:((ch:Int)*w.getD i 0).natAbs<=(2^64)*dP:=by
   rw[jg,Int.natAbs_natCast];exact jZ oO (jV (hwb i hi))
  have h2:=hmb i hi;exact⟨br (hwb i hi) xD,oO,fun hv=>⟨(po (hM i hi)).2 hv,(po (CY hW hi)).2 hv⟩⟩
 have hRs:=fun(i:Nat) (hi:i<s.vars.length) (a b:Int) (h:a.natAbs+((ch:Int)*b).natAbs<da) (hbl:b.natAbs<da) (h0:s.vars.getD i []=[]->0<=a/\0<=b)=>HS hs hi h (show ch<da by omega) hbl h0
 have hB:=fun(i:Nat) (hi:i<s.vars.length) (x:Int) (hx:x.natAbs<da) (L:Nat) (hL:L<da)=>wj (s:=s) hi hx hL
 have hML: ∀i,i<s.vars.length->aE 258 [s.pv,E i,Zp (ms.getD i 0),N (lM (bj s.groups) c sl (s.vars.getD i []))] (.b true):=fun i hi=>by
  have:=wj (s:=s) hi (x:=ms.getD i 0) (L:=lM (bj s.groups) c sl (s.vars.getD i [])) (by have:=hmb i hi;omega) (N9 hr lo (hb _ (au [] hi)).2)
  rwa[hM i hi]at this
 have hRL: ∀i,i<s.vars.length->(gv (bj s.groups) (s.vars.getD i []) (ms.getD i 0) (w.getD i 0) ch).natAbs<da:=fun i hi=>by
  have h1:=(hI i hi).2.1;have h2:=yb (ms.getD i 0) (ch*w.getD i 0);clear h33 hmb hwb hM hW;unfold gv;split
  ·by_cases h0:num (bj s.groups)=0
   ·rw[h0];simp only[Int.natCast_zero,Int.emod_zero];omega
   ·have g1:=lg (ms.getD i 0+(ch:Int)*w.getD i 0) (b:=num (bj s.groups)) oO;have g2:=nY (ms.getD i 0+(ch:Int)*w.getD i 0) (b:=num (bj s.groups)) oO;have:=zR lo;omega
  ·omega
 generalize aW ch (num c)=cm at*;clear hwb hmb hwA hmA hW hM h33 hpp;obtain⟨gs,us,es⟩:=s;simp only at hb nv hwl hml hI hRs hB hML hRL lo hbo⊢;generalize bj gs=o at*;have l2:(us.map cz).length=us.length:=aG ..;have l3:(us.map fun b=>N (lM o c sl b)).length=us.length:=aG ..
 have l6:(us.map fun b=>N (lR o c sl b)).length=us.length:=aG ..
 have l4:(w.map Zp).length=us.length:=by rw[aG];exact hwl
 have l5:(ms.map Zp).length=us.length:=by rw[aG];exact hml
 have hrl:=qO o us ms w ch;have rS: ∀{j:Nat},j<us.length->aT Zp ((dA o us ms w ch).take (j+1))=aT Zp ((dA o us ms w ch).take j)++[.v (.b (zs ((dA o us ms w ch).getD j 0))), .v (.s (zb ((dA o us ms w ch).getD j 0)))]:=fun h=>by
  rw[aL 0 oO,u6]
 clear hs h64 c8;unfold cG.pv at*;simp only at*;refine eW call127 func127 ?_;refine P8 (aN @l2 (aN @l4 (aN @l5 (hd oT)))) @hbo @hv1 @hv2 @hn @hcm @hrg oT ?_;refine ak (α:=Nat) (fun i=>us.length-i) (fun i=>⟨[(2, .v (.sl (w.map Zp))),(3, .v (.sl (ms.map Zp))),(4, .v (N ch)),(6, .p 1001 0 0),(12, .v (.sl (us.map fun b=>N (lM o c sl b)))),(13, .v (.sl (us.map fun b=>N (lR o c sl b)))),(15,E' i)],[(1001,⟨0,[.v (.sl (gs.map dO)), .v (.sl (us.map cz)), .v (.sl (es.map c9.pv))],false,none⟩)],_⟩) (fun i=>i<=us.length) 0 (fun _=>aD _) (aO _) ?_ ?_
 ·exact lE
 ·intro i hi R hR
  by_cases hlt:i<us.length
  ·have hgo:=hR (i+1) oO oO;have e2:=getD_map (fun b=>N (lM o c sl b)) us [] hlt
   have e4:=getD_map Zp ms 0 (i:=i) oO;have hc:=hML i hlt;clear hR hML hRs hB hv1 hv2 hI hRL rS;generalize us.getD i []=u at*;simp only[Zp,cI,fQ]at e4 hc;exact js (aN @l2 (aN @l3 (aN @l5 (aN @e2 @e4)))) @hgo @hc
  ·obtain rfl:i=us.length:=oO;clear hR hML hv1 hv2 hrg hn hcm hbo
   by_cases hpos:0<us.length
   rotate_left
   ·obtain rfl:us=[]:=eH.1 oO;exact Tk @l5
   refine dH @l5 ?_;refine aj ?_;have e3:=getD_map Zp w 0 (i:=0) oO;have e4:=getD_map Zp ms 0 (i:=0) oO;have e2:=getD_map (fun b=>N (lR o c sl b)) us [] hpos
   have kb:=hb _ (au [] hpos);have hx:=hI 0 hpos;have hp:=hRs 0 hpos (ms.getD 0 0) (w.getD 0 0) hx.2.1 hx.1 hx.2.2;have hgr:=qN (o:=o) (ms:=ms) (w:=w) (c:=ch) hpos;have hc:=hB 0 hpos (gv o (us.getD 0 []) (ms.getD 0 0) (w.getD 0 0) ch) (hRL 0 hpos) _ (zC hr lo kb.2);have hgk: ∀k,k<0+1->(∀q,q<0->fM (us.getD q []) ((dA o us ms w ch).getD q 0) (lR o c sl (us.getD q []))=true)->fM (us.getD 0 []) ((dA o us ms w ch).getD 0 0) (lR o c sl (us.getD 0 []))=true->fM (us.getD k []) ((dA o us ms w ch).getD k 0) (lR o c sl (us.getD k []))=true:=fun k hk h1 h2=>by
    by_cases hkj:k<0
    ·exact h1 k hkj
    ·obtain rfl:k=0:=oO;exact h2
   rw[hgr]at hgk;have hbad:=fun h: ¬fM (us.getD 0 []) ((dA o us ms w ch).getD 0 0) (lR o c sl (us.getD 0 []))=true=>kS (p:=fun i=>fM (us.getD i []) ((dA o us ms w ch).getD i 0) (lR o c sl (us.getD i []))) hpos (dn.2 h)
   rw[<-vL,hgr]at hbad;have r1:=rS hpos;rw[hgr]at r1;clear hx kb hgr;generalize gv o (us.getD 0 []) (ms.getD 0 0) (w.getD 0 0) ch=z at*;generalize hin:fM (us.getD 0 []) z (lR o c sl (us.getD 0 []))=p at*;generalize us.getD 0 []=u at*;generalize lR o c sl u=Rr at*;simp only[Zp,cI,fQ]at e3 e4 hc;clear hin;cases p
   ·rw[xz,hbad (by simp)]
    exact xi (aN @l2 (aN @l4 (aN @l5 (aN @l6 (aN @e2 (aN @e3 @e4)))))) @hp @hc
   ·refine GJ (aN @l2 (aN @l4 (aN @l5 (aN @l6 (aN @e2 (aN @e3 @e4)))))) @hp @hc ?_;refine ak (α:=Nat) (fun j=>us.length-(j+1)) (fun j=>⟨[(2, .v (.sl (w.map Zp))),(3, .v (.sl (ms.map Zp))),(4, .v (N ch)),(6, .p 1001 0 0),(13, .v (.sl (us.map fun b=>N (lR o c sl b)))),(16, .rs 1091 j 0 (j+1) 2),(17,E' (j+1))],[(1001,⟨0,[.v (.sl (gs.map dO)), .v (.sl (us.map cz)), .v (.sl (es.map c9.pv))],false,none⟩),(1091,⟨j,aT Zp ((dA o us ms w ch).take (j+1)),true,some 94⟩)],1096⟩) (fun j=>j+1<=us.length/\ ∀k,k<j+1->fM (us.getD k []) ((dA o us ms w ch).getD k 0) (lR o c sl (us.getD k []))=true) 0 (fun _=>dr rfl) ⟨hpos,fun k hk=>hgk k hk (fun j hj=>oO) rfl⟩ ?_ ?_
    ·rw[r1,List.take_zero,show aT Zp ([]:List Int)=[]from rfl,List.nil_append]
     exact lE
    ·clear e2 e3 e4 hp hc hbad r1 hgk;rintro j ⟨hj,hall⟩ R hR;have hlm:((dA o us ms w ch).take (j+1)).length=j+1:=by rw[cd];omega
     have q1:=cf rX ((dA o us ms w ch).take (j+1));have q2:=ct rX ((dA o us ms w ch).take (j+1));rw[hlm]at q1 q2
     by_cases hlt:j+1<us.length
     ·have e3:=getD_map Zp w 0 (i:=(j+1)) oO;have e4:=getD_map Zp ms 0 (i:=(j+1)) oO;have e2:=getD_map (fun b=>N (lR o c sl b)) us [] hlt
      have kb:=hb _ (au [] hlt);have hx:=hI (j+1) hlt;have hp:=hRs (j+1) hlt (ms.getD (j+1) 0) (w.getD (j+1) 0) hx.2.1 hx.1 hx.2.2;have hgr:=qN (o:=o) (ms:=ms) (w:=w) (c:=ch) hlt;have hc:=hB (j+1) hlt (gv o (us.getD (j+1) []) (ms.getD (j+1) 0) (w.getD (j+1) 0) ch) (hRL (j+1) hlt) _ (zC hr lo kb.2);have hgk: ∀k,k<(j+1)+1->(∀q,q<(j+1)->fM (us.getD q []) ((dA o us ms w ch).getD q 0) (lR o c sl (us.getD q []))=true)->fM (us.getD (j+1) []) ((dA o us ms w ch).getD (j+1) 0) (lR o c sl (us.getD (j+1) []))=true->fM (us.getD k []) ((dA o us ms w ch).getD k 0) (lR o c sl (us.getD k []))=true:=fun k hk h1 h2=>by
       by_cases hkj:k<(j+1)
       ·exact h1 k hkj
       ·obtain rfl:k=(j+1):=oO;exact h2
      rw[hgr]at hgk;have hbad:=fun h: ¬fM (us.getD (j+1) []) ((dA o us ms w ch).getD (j+1) 0) (lR o c sl (us.getD (j+1) []))=true=>kS (p:=fun i=>fM (us.getD i []) ((dA o us ms w ch).getD i 0) (lR o c sl (us.getD i []))) hlt (dn.2 h)
      rw[<-vL,hgr]at hbad;have r1:=rS hlt;rw[hgr]at r1;clear hx kb hgr;generalize gv o (us.getD (j+1) []) (ms.getD (j+1) 0) (w.getD (j+1) 0) ch=z at*;generalize hin:fM (us.getD (j+1) []) z (lR o c sl (us.getD (j+1) []))=p at*;generalize us.getD (j+1) []=u at*;generalize lR o c sl u=Rr at*;simp only[Zp,cI,fQ]at e3 e4 hc;clear hin;cases p
      ·rw[xz,hbad (by simp)]
       clear hR hall hgk;exact xi (aN @l2 (aN @l4 (aN @l5 (aN @l6 (aN @e2 (aN @e3 (aN @e4 (aN @q1 @q2)))))))) @hp @hc
      ·have hgo:=hR (j+1) ⟨oO,fun k hk=>hgk k hk hall rfl⟩ oO
       rw[r1]at hgo;clear hR hall hgk;refine tu (aN @l2 (aN @l4 (aN @l5 (aN @l6 (aN @e2 (aN @e3 (aN @e4 (aN @q1 @q2)))))))) @hp @hc ?_;refine hgo _ ?_;refine lG ?_;all_goals exact fun c hc=>by rcases hc with hc|rfl|rfl<;>first|exact cv hc|rfl
     ·have hjl:us.length=j+1:=oO;have hgood2:vL o c sl us (dA o us ms w ch)=true:=lu fun k hk=>hall k oO
      rw[xz,hgood2];have hT:(dA o us ms w ch).take (j+1)=dA o us ms w ch:=cZ oO;rw[hT]at q1 q2⊢;have q3:=dY rX (dA o us ms w ch);have q4:=de rX (dA o us ms w ch);rw[hrl,hjl]at q4;clear hR;exact fP (aN @l4 (aN @hjl (aN @q1 (aN @q2 (aN @q3 (aN @q4 @ek))))))
