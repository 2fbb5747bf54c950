/- Part of the proof. -/
import Derived.Test.YtkmahpcpmgedkaaGreatDoorFB38
set_option linter.all false
set_option maxHeartbeats 16000000
set_option maxRecDepth 100000
namespace Go.Proofs.Tryz
open Go Go.Dom Go.Num
variable {c sl:Bytes}
theorem qv (s:cG) (hl:s.groups.length<1000000):aD 87 [s.pv] (.s (bA s.groups)):=by
 obtain⟨gs,vs,es⟩:=s;simp only at hl;have l1:(gs.map eu).length=gs.length:=aB ..;unfold cG.pv;simp only;refine eW call87 func87 ?_;refine pU ?_;refine af (α:=Nat) (fun i=>gs.length-i) (fun i=>⟨[(1, .p 1000 0 0),(3,E' i)],[(1000,⟨0,[.v (.sl (gs.map eu)), .v (.sl (vs.map cl)), .v (.sl (es.map da.pv))],false,none⟩)],_⟩) (fun i=>i<=gs.length/\bA (gs.drop i)=bA gs) 0 (fun _=>ay _) ⟨aJ _,rfl⟩ ?_ ?_
 ·exact lE
 ·rintro i ⟨hi,hf⟩ R hR;rw[<-hf]
  by_cases hlt:i<gs.length
  ·have e1:=getD_map eu gs fC hlt;have hgo:=hR (i+1);rw[<-hf]at hgo;rw[aT fC hlt]at hgo⊢;obtain⟨x,hx⟩: ∃x,x=gs.getD i fC:=⟨_,rfl⟩;rw[<-hx]at e1 hgo⊢;clear hx hf hR;obtain⟨m,o⟩:=x;simp only[bA]at hgo⊢;simp only[eu]at e1
   by_cases ho:o=[]
   ·subst ho;simp only[au]at hgo⊢;have hgo:=hgo ⟨oO,trivial⟩ oO;exact jC (aN @l1 (aN @e1 @nn)) @hgo
   ·have hb:(o==([]:Bytes))=false:=by simpa using ho
    rw[ae ho];exact gn (aN @l1 (aN @e1 @hb))
  ·obtain rfl:i=gs.length:=oO;rw[cO];exact gn @l1
theorem O8 {α:Type} {p:α->Bool} {l:List α} {i:Nat} (d:α) (h:i<l.length):(l.take (i+1)).any p=((l.take i).any p||p (l.getD i d)):=by
 rw[aQ d h,List.any_append];simp
theorem Jf {s:cG} (hs:xf s):aD 401 [s.pv] (.b true):=by
 have hk:=hs.k;have hor:=qv s (by have:=hs.ng;omega)
 obtain⟨gs,vs,es⟩:=s;obtain⟨-,hg,hv,hq,ng,nv,ne,-⟩:=hs;simp only at hg hv hq ng nv ne;have l1:(gs.map eu).length=gs.length:=aB ..;have l2:(vs.map cl).length=vs.length:=aB ..;have l3:(es.map da.pv).length=es.length:=aB ..;unfold E4 at hk;simp only at hk hor;unfold cG.pv at*;simp only at*;refine eW call401 func401 ?_;refine pU ?_;refine af (α:=Nat) (fun i=>vs.length-i) (fun i=>⟨[(1, .p 1000 0 0),(3, .v (.b ((vs.take i).any fun b=>b==[]))),(4,E' i)],[(1000,⟨0,[.v (.sl (gs.map eu)), .v (.sl (vs.map cl)), .v (.sl (es.map da.pv))],false,none⟩)],_⟩) (fun i=>i<=vs.length) 0 (fun _=>ay _) (aJ _) ?_ ?_
 ·exact lE
 ·intro i hi R hR
  by_cases hlt:i<vs.length
  ·have e1:=getD_map cl vs [] hlt;have hgo:=hR (i+1) oO oO;rw[O8 [] hlt]at hgo;generalize (vs.take i).any (fun b=>b==[])=b1 at*
   generalize vs.getD i []=x at*;clear hR hk;simp only[cl]at e1;cases b1
   ·rw[j4]at hgo;exact jC (aN @l2 @e1) @hgo
   ·rw[j7]at hgo;exact jC (aN @l2 @e1) @hgo
  ·obtain rfl:i=vs.length:=oO;rw[ct]
   cases hb:vs.any (fun b=>b==[])with
   |false=>
    exact gn @l2
   |true=>
    rw[hb]at hk;simp only[bQ,j4,aZ,fJ]at hk;obtain⟨⟨hk1,hk2⟩,hk3⟩:=hk;generalize bA gs=q at*;clear hR hb;refine nc (aN @l2 @hk1) @hor ?_;refine af (α:=Nat) (fun i=>gs.length-i) (fun i=>⟨[(1, .p 1000 0 0),(5, .v (.s q)),(6,E' i)],[(1000,⟨0,[.v (.sl (gs.map eu)), .v (.sl (vs.map cl)), .v (.sl (es.map da.pv))],false,none⟩)],_⟩) (fun i=>i<=gs.length) 0 (fun _=>ay _) (aJ _) ?_ ?_
    ·exact lE
    ·intro i hi R hR
     by_cases hlt:i<gs.length
     ·have e1:=getD_map eu gs fC hlt;have hgo:=hR (i+1) oO oO;have ho:G2 q (gs.getD i fC)=false:=by
       have:=x6.1 hk2 _ (aq fC hlt);simpa using this
      obtain⟨x,hx⟩: ∃x,x=gs.getD i fC:=⟨_,rfl⟩;rw[<-hx]at e1 ho;clear hR hx hk2 hk3;obtain⟨m,o⟩:=x;simp only[eu,G2]at e1 ho
      by_cases h0:(o==([]:Bytes))=true
      ·exact jC (aN @l1 (aN @e1 @h0)) @hgo
      ·have h0:(o==([]:Bytes))=false:=by simpa using h0
       have h1:(o==q)=true:=by rw[h0]at ho;simpa using ho
       exact jC (aN @l1 (aN @e1 (aN @h0 @h1))) @hgo
     ·obtain rfl:i=gs.length:=oO;clear hR;refine cU @l1 ?_;refine af (α:=Nat) (fun i=>es.length-i) (fun i=>⟨[(1, .p 1000 0 0),(7,E' i)],[(1000,⟨0,[.v (.sl (gs.map eu)), .v (.sl (vs.map cl)), .v (.sl (es.map da.pv))],false,none⟩)],_⟩) (fun i=>i<=es.length) 0 (fun _=>ay _) (aJ _) ?_ ?_
      ·exact lE
      ·intro i hi R hR
       by_cases hlt:i<es.length
       ·have e1:=getD_map da.pv es gF hlt;obtain⟨q1,q2,-,q4,q5⟩:=hq _ (aq gF hlt);have hbq:=bM.1 hk3 _ (aq gF hlt);have hgo:=hR (i+1) oO oO;obtain⟨x,hx⟩: ∃x,x=es.getD i gF:=⟨_,rfl⟩;rw[<-hx]at e1 q1 q2 q4 q5 hbq;obtain⟨gr,tg,ts⟩:=x;simp only at q1 q2 q4 q5;have hgl:gr.toNat<gs.length:=oO;have e3:=getD_map eu gs fC hgl;have hbb:JF gs vs ⟨gr,tg,ts⟩=((gs.getD gr.toNat fC).2==[]&&ts.any (Bk vs)):=rfl;rw[hbb]at hbq;obtain⟨z,hz⟩: ∃z,z=gs.getD gr.toNat fC:=⟨_,rfl⟩;rw[<-hz]at e3 hbq;obtain⟨m,o⟩:=z;simp only at hbq;have l4:(ts.map eF.pv).length=ts.length:=aB ..;simp only[da.pv]at e1;simp only[eu]at e3;clear hR hx hz hbb;refine cU (aN @l3 @e1) ?_;refine af (α:=Nat) (fun i=>ts.length-i) (fun j=>⟨[(1, .p 1000 0 0),(7,E' i),(8, .p 1033 0 0),(9,E' j)],[(1000,⟨0,[.v (.sl (gs.map eu)), .v (.sl (vs.map cl)), .v (.sl (es.map da.pv))],false,none⟩),(1033,⟨0,[.v (.i .i64 gr), .v (.s tg), .v (.sl (ts.map eF.pv))],false,some 154⟩)],_⟩) (fun i=>i<=ts.length) 0 (fun _=>ay _) (aJ _) ?_ ?_
        ·exact lE
        ·intro j hj R' hR'
         by_cases hjt:j<ts.length
         ·have e2:=getD_map eF.pv ts eR hjt;obtain⟨t1,t2,-,-⟩:=q5 _ (aq eR hjt);have hgo':=hR' (j+1) oO oO;have hbt:((o==[])&&Bk vs (ts.getD j eR))=false:=by
           cases h0:(o==([]:Bytes))with
           |false=>rfl
           |true=>
            rw[h0]at hbq;have h2:ts.any (Bk vs)=false:=by simpa using hbq
            have:=x6.1 h2 _ (aq eR hjt);simpa using this
          obtain⟨y,hy⟩: ∃y,y=ts.getD j eR:=⟨_,rfl⟩;rw[<-hy]at e2 t1 t2 hbt;obtain⟨b,v,n,a⟩:=y;simp only at t1 t2;have e4:=getD_map cl vs [] (i:=v.toNat) oO;simp only[Bk]at hbt;simp only[eF.pv]at e2;clear hR' hy hbq q5;generalize vs.getD v.toNat []=u at*;simp only[cl]at e4;generalize h0:(o==([]:Bytes))=p0 at*;generalize h1:(u==([]:Bytes))=p1 at*;cases p1
          ·refine dH (aN @l2 (aN @l4 (aN @e2 (aN @e4 @h1)))) ?_;refine hgo' _ ?_;exact lE
          ·have h0:(o==([]:Bytes))=false:=by rw[h0];simpa using hbt
           refine dH (aN @l1 (aN @l2 (aN @l4 (aN @e2 (aN @e3 (aN @e4 (aN @h1 @h0))))))) ?_;refine hgo' _ ?_;exact lE
         ·obtain rfl:j=ts.length:=oO;exact jC (aN @l3 @l4) @hgo
       ·obtain rfl:i=es.length:=oO;exact gn @l3
theorem KP {s:cG} (hs:xf s):aD 293 [s.pv] (E 0):=by
 have h1:=At hs.m fun b hb=>(hs.v b hb).1
 have h2:=FH hs.m;have h3:=tX hs.m;have h4:=Jf hs;clear hs;have h5:aD 298 [s.pv] (E 0):=by
  unfold cG.pv at*;refine eW call298 func298 ?_;exact z4 @h2 @h3 @h4 oT
 unfold cG.pv at*;refine eW call293 func293 ?_;exact z2 @h1 @h5
theorem Ci {s:cG} (hs:xf s) {w:List (Bool×Bytes)} (hw:w.length<1000000):aD 181 [s.pv, .sl (w.map dI)] (E (if !(w.all cJ)then 3 else if w.length≠s.vars.length then 6 else 0)):=by
 have h2:=FH hs.m;have h3:=tX hs.m;have h4:=Jf hs;have h5:aD 298 [s.pv] (E 0):=by
  unfold cG.pv at*;refine eW call298 func298 ?_;exact z4 @h2 @h3 @h4 oT
 exact FB (At hs.m fun b hb=>(hs.v b hb).1) h5 hw
theorem sk {s:cG} (hp:BD c sl s):aD 178 [.agg [.s c, .s sl],s.pv] (.tup [.sl (s.vars.map fun b=>N (lM (bA s.groups) c sl b)), .sl (s.vars.map fun b=>N (lR (bA s.groups) c sl b)),E 0]):=by
 have hr:=hp.r;have hs:=hp.g;have hm:=hp.m;have hck:=KP hs;have hoV:=dc hs.g;clear hp;have hor:=qw s (by have:=hs.ng;omega)
 have v1:=aK c;have v2:=aK sl;rw[hr.vc]at v1;rw[hr.vs]at v2;have lc:=hr.lc;have lsl:=hr.ls;have c1:=ia (a:=c) (b:=[2]) (bL hr.vc) (.inr oC) oO oC;have c2:=ia (a:=sl) (b:=[2]) (bL hr.vs) (.inr oC) oO oC;rw[show num ([2]:Bytes)=2 from rfl]at c1 c2
 have d1: ∀ _:True,decide (ba (num c) 2<0)=false:=fun _=>aH (fun g=>by have:=fP.1 g;have:=hr.c2;omega)
 have d2: ∀ _:True,decide (ba (num sl) 2<0)=false:=fun _=>aH (fun g=>by have:=fP.1 g;have:=hr.s2;omega)
 generalize ba (num c) 2=cm1 at*;generalize ba (num sl) 2=cm2 at*;have nv:=hs.nv;have hv:=hs.v;obtain⟨gs,vs,es⟩:=s;simp only at*;generalize bA gs=q at*;clear hs;have c3:=ia (a:=c) (b:=q) (bL hr.vc) (bL hoV.1) oO oO;have d3: ∀b∈vs,b=[]->decide (ba (num c) (num q)>0)=false:=fun b hb h=>aH fun g=>by
  have:=hm b hb h;unfold ba at g
  split at g
  ·omega
  ·split at g<;>omega
 generalize ba (num c) (num q)=cm3 at*;have l2:(vs.map cl).length=vs.length:=aB ..;unfold cG.pv at*;simp only at*;have hM:dY (fun b=>N (lM q c sl b)) 1:=⟨fun _=>rfl,fun _ y hy=>by cases dt.1 hy;rfl,fun _ _=>rfl,fun h=>aW rfl h⟩
 have hR0:dY (fun b=>N (lR q c sl b)) 1:=⟨fun _=>rfl,fun _ y hy=>by cases dt.1 hy;rfl,fun _ _=>rfl,fun h=>aW rfl h⟩
 have row1: ∀{i:Nat},i<vs.length->bj (fun b=>N (lM q c sl b)) (vs.take (i+1))=bj (fun b=>N (lM q c sl b)) (vs.take i)++[.v (N (lM q c sl (vs.getD i [])))]:=fun h=>by
  rw[aQ [] h,cf];rfl
 have La: ∀{i:Nat},i<vs.length->bj (fun b=>N (lR q c sl b)) (vs.take (i+1))=bj (fun b=>N (lR q c sl b)) (vs.take i)++[.v (N (lR q c sl (vs.getD i [])))]:=fun h=>by
  rw[aQ [] h,cf];rfl
 have rn1:bj (fun b=>N (lM q c sl b)) []=[]:=rfl
 have rn2:bj (fun b=>N (lR q c sl b)) []=[]:=rfl
 have t1:=wj sl c oO oO;have s1:=oJ c [1] oO oC (by have:=hr.c2;show 1<=num c;omega)
 rw[show num ([1]:Bytes)=1 from rfl]at s1
 have llim: ∀{x:Nat},x<cW->(aX x).length<1048576:=fun h=>by have:=lf.2 h;omega
 have h64:=lr;have hnc:=eP lc;have hns:=eP lsl;have hAl:num sl*num c<cW:=bH (gQ hns hnc) (by unfold cW;decide+kernel)
 have tt: ∀{b:Bytes},aa b=true->b≠[]->b.length<=16->aD 295 [N (num sl*num c), .s b] (N (qj c sl b))/\aD 226 [.s b, .s [1]] (N (num b-1))/\aD 295 [N (num c-1),N (num b-1)] (N ((num c-1)*(num b-1)))/\aD 36 [N (qj c sl b)] (.b true)/\aD 226 [N (qj c sl b),N ((num c-1)*(num b-1))] (N (Nz c sl b)):=by
  intro b vb hb lb;have hb0:=qP (bL vb) hb;have hb16:=Fe lb;have hw:=xz;have hML:=xJ hr lb;have hle:=NA (b:=b) hr;have u1:=Dm (x:=num sl*num c) (y:=num b) (llim hAl) (llim oO);rw[eE vb]at u1;have u2:=oJ b [1] oO oC hb0;rw[show num ([1]:Bytes)=1 from rfl]at u2
  have u3:=Dm (x:=num c-1) (y:=num b-1) (llim oO) (llim oO);have u4:=aK (aX (qj c sl b));rw[vB hML]at u4;have u5:=xN (x:=qj c sl b) (y:=(num c-1)*(num b-1)) (by have:=llim hML;omega) (by have:=llim (show(num c-1)*(num b-1)<cW by omega);omega) hle
  exact⟨u1,u2,u3,u4,u5⟩
 have tt2: ∀{b:Bytes},aa b=true->b≠[]->b.length<=16->aD 295 [N (num sl*num c), .s b] (N (lM q c sl b))/\aD 226 [.s b, .s [1]] (N (num b-1))/\aD 295 [N (num c-1),N (num b-1)] (N ((num c-1)*(num b-1)))/\aD 36 [N (lM q c sl b)] (.b true)/\aD 226 [N (lM q c sl b),N ((num c-1)*(num b-1))] (N (lR q c sl b)):=by
  intro b vb hb lb;have:=tt vb hb lb
  rwa[<-show lM q c sl b=qj c sl b by rw[lM,ae hb],<-show lR q c sl b=Nz c sl b by rw[lR,ae hb]]at this
 clear tt hAl llim;refine eW call178 func178 ?_;refine Gj (aN (d1 oT) (d2 oT)) @v1 @v2 @hck @c1 @c2 @hor oT ?_;refine af (α:=Nat) (fun i=>vs.length-i) (fun i=>⟨[(2, .p 1000 0 0),(3, .p 1001 0 0),(8, .v (.s q)),(9,E' i)],[(1000,⟨0,[.v (.s c), .v (.s sl)],false,none⟩),(1001,⟨0,[.v (.sl (gs.map eu)), .v (.sl (vs.map cl)), .v (.sl (es.map da.pv))],false,none⟩)],_⟩) (fun i=>i<=vs.length) 0 (fun _=>ay _) (aJ _) ?_ ?_
 ·exact lE
 ·intro i hi R hR
  by_cases hlt:i<vs.length
  ·have e1:=getD_map cl vs [] hlt;have hgo:=hR (i+1) oO oO;have d3:=d3 _ (aq [] hlt);generalize vs.getD i []=x at*;clear hR;simp only[cl]at e1
   by_cases hb:x=[]
   ·have d3:=d3 hb;subst hb;exact gV (aN @l2 (aN @e1 (aN @nn @d3))) @hgo @c3
   ·have kb:(x==([]:Bytes))=false:=by simpa using hb
    exact jC (aN @l2 (aN @e1 @kb)) @hgo
  ·obtain rfl:i=vs.length:=oO;clear hR d3 c3
   by_cases hpos:0<vs.length
   rotate_left
   ·obtain rfl:vs=[]:=gS.1 oO;exact SU @l2
   refine cU @l2 ?_;refine ai ?_;have e1:=getD_map cl vs [] hpos;have r1:=row1 hpos;have r2:=La hpos;have kk:=hv _ (aq [] hpos);have hcs:(vs.getD 0 []=[]/\N (lM q c sl (vs.getD 0 []))= .s q/\N (lR q c sl (vs.getD 0 []))= .s q)\/(vs.getD 0 []≠[]/\aD 295 [N (num sl*num c), .s (vs.getD 0 [])] (N (lM q c sl (vs.getD 0 [])))/\aD 226 [.s (vs.getD 0 []), .s [1]] (N (num (vs.getD 0 [])-1))/\aD 295 [N (num c-1),N (num (vs.getD 0 [])-1)] (N ((num c-1)*(num (vs.getD 0 [])-1)))/\aD 36 [N (lM q c sl (vs.getD 0 []))] (.b true)/\aD 226 [N (lM q c sl (vs.getD 0 [])),N ((num c-1)*(num (vs.getD 0 [])-1))] (N (lR q c sl (vs.getD 0 [])))):=by
    by_cases h:vs.getD 0 []=[]
    ·refine .inl ⟨h,?_,?_⟩
     ·rw[lM,ah h];exact eE hoV.1
     ·rw[lR,ah h];exact eE hoV.1
    ·exact .inr ⟨h,tt2 kk.1 h kk.2⟩
   clear kk;generalize lM q c sl (vs.getD 0 [])=A at*;generalize lR q c sl (vs.getD 0 [])=B at*;generalize vs.getD 0 []=b at*;simp only[cl]at e1;rcases hcs with⟨hb,hA,hB⟩|⟨hb,u1,u2,u3,u4,u5⟩
   rotate_left
   have kb:(b==([]:Bytes))=false:=by simpa using hb
   repeat' first|simp only[go_sem,seval,l2,e1,kb]|refine cP t1 ?_|refine cP u1 ?_|refine cP s1 ?_|refine cP u2 ?_|refine cP u3 ?_|refine cP u4 ?_|refine cP u5 ?_|refine oE ?_|apply xX<;>intro hc
   rotate_left
   rw[hA]at r1;rw[hB]at r2;have kb:(b==([]:Bytes))=true:=by simpa using hb
   repeat' first|simp only[go_sem,seval,l2,e1,kb]|refine oE ?_|apply xX<;>intro hc
   all_goals
    obtain⟨nm,hnm⟩: ∃nm,nm=(if b=[]then 1059 else 1077):=⟨_,rfl⟩
    obtain⟨nn',hnn⟩: ∃nn',nn'=(if b=[]then 1063 else 1083):=⟨_,rfl⟩
    obtain⟨nx',hnx⟩: ∃nx',nx'=(if b=[]then 1069 else 1089):=⟨_,rfl⟩
    first|rw[ah hb]at hnm hnn hnx|rw[ae hb]at hnm hnn hnx
    refine af (α:=Nat) (fun j=>vs.length-(j+1)) (fun j=>⟨[(2, .p 1000 0 0),(3, .p 1001 0 0),(8, .v (.s q)),(10, .rs nm j 0 (j+1) 1),(11, .rs nn' j 0 (j+1) 1),(12,E' (j+1))],[(1000,⟨0,[.v (.s c), .v (.s sl)],false,none⟩),(1001,⟨0,[.v (.sl (gs.map eu)), .v (.sl (vs.map cl)), .v (.sl (es.map da.pv))],false,none⟩),(nm,⟨j,bj (fun b=>N (lM q c sl b)) (vs.take (j+1)),true,some 22⟩),(nn',⟨j,bj (fun b=>N (lR q c sl b)) (vs.take (j+1)),true,some 22⟩)],nx'⟩) (fun j=>j+1<=vs.length) 0 (fun _=>by show _<=nx';rw[hnx];exact bZ rfl) hpos ?_ ?_<;>subst hnm hnn hnx
    ·rw[dq,r1,r2,List.take_zero,rn1,rn2];exact lE
    ·first|clear u1 u2 u3 u4 u5|clear hA hB
     clear e1 kb r1 r2 hb;intro j hj R hR;have hj1:(vs.take (j+1)).length=j+1:=by rw[bV];omega
     have q1:=cz hM (vs.take (j+1));have q2:=cM hM (vs.take (j+1));have q5:=cz hR0 (vs.take (j+1));have q6:=cM hR0 (vs.take (j+1));rw[hj1,dN]at q1 q2 q5 q6
     by_cases hlt:j+1<vs.length
     ·have hgo:=hR (j+1) oO oO;clear hR;have e1:=getD_map cl vs [] hlt;have r1:=row1 hlt;have r2:=La hlt;have kk:=hv _ (aq [] hlt);have hcs:(vs.getD (j+1) []=[]/\N (lM q c sl (vs.getD (j+1) []))= .s q/\N (lR q c sl (vs.getD (j+1) []))= .s q)\/(vs.getD (j+1) []≠[]/\aD 295 [N (num sl*num c), .s (vs.getD (j+1) [])] (N (lM q c sl (vs.getD (j+1) [])))/\aD 226 [.s (vs.getD (j+1) []), .s [1]] (N (num (vs.getD (j+1) [])-1))/\aD 295 [N (num c-1),N (num (vs.getD (j+1) [])-1)] (N ((num c-1)*(num (vs.getD (j+1) [])-1)))/\aD 36 [N (lM q c sl (vs.getD (j+1) []))] (.b true)/\aD 226 [N (lM q c sl (vs.getD (j+1) [])),N ((num c-1)*(num (vs.getD (j+1) [])-1))] (N (lR q c sl (vs.getD (j+1) [])))):=by
       by_cases h:vs.getD (j+1) []=[]
       ·refine .inl ⟨h,?_,?_⟩
        ·rw[lM,ah h];exact eE hoV.1
        ·rw[lR,ah h];exact eE hoV.1
       ·exact .inr ⟨h,tt2 kk.1 h kk.2⟩
      clear kk;generalize lM q c sl (vs.getD (j+1) [])=A at*;generalize lR q c sl (vs.getD (j+1) [])=B at*;generalize vs.getD (j+1) []=b at*;simp only[cl]at e1;rcases hcs with⟨hb,hA,hB⟩|⟨hb,u1,u2,u3,u4,u5⟩
      ·rw[hA]at r1;rw[hB]at r2;rw[r1,r2]at hgo;have kb:(b==([]:Bytes))=true:=by simpa using hb
       refine dH (aN @l2 (aN @e1 (aN @kb (aN @q1 (aN @q2 (aN @q5 @q6)))))) ?_;refine hgo _ ?_
       (refine AS.Le.of (by first|decide|omega) ?_ ?_<;>simp[dy,dx,aO,az,AV.bd,AV.bd.bdL,u8,ar,ax,aA])
       all_goals (refine⟨?_,?_⟩<;>(intro c hc;rcases hc with h|h<;>first|exact cR h|(subst h;rfl)))
      ·rw[r1,r2]at hgo;have kb:(b==([]:Bytes))=false:=by simpa using hb
       refine SV (aN @l2 (aN @e1 (aN @kb (aN @q1 (aN @q2 (aN @q5 @q6)))))) @t1 @u1 @s1 @u2 @u3 @u4 @u5 ?_;refine hgo _ ?_
       (refine AS.Le.of (by first|decide|omega) ?_ ?_<;>simp[dy,dx,aO,az,AV.bd,AV.bd.bdL,u8,ar,ax,aA])
       all_goals (refine⟨?_,?_⟩<;>(intro c hc;rcases hc with h|h<;>first|exact cR h|(subst h;rfl)))
     ·obtain hjv:j+1=vs.length:=oO;rw[hjv,ct]at q1 q2 q5 q6;rw[hjv,ct];have q3:=ff hM vs;have q4:chunk 1 vs.length (List.flatMap (fun x=>[PV.s (aX (lM q c sl x))]) vs)=vs.map fun b=>N (lM q c sl b):=dD hM vs
      have q7:=ff hR0 vs;have q8:chunk 1 vs.length (List.flatMap (fun x=>[PV.s (aX (lR q c sl x))]) vs)=vs.map fun b=>N (lR q c sl b):=dD hR0 vs
      exact gn (aN @l2 (aN @q1 (aN @q2 (aN @q3 (aN @q4 (aN @q5 (aN @q6 (aN @q7 (aN @q8 @fk)))))))))
theorem vZ {s:cG} {i:Nat} (hi:i<s.vars.length) {x:Int} (hx:x.natAbs<cW) {L:Nat} (hL:L<cW):aD 199 [s.pv,E i,Zp x,N L] (.b (fU (s.vars.getD i []) x L)):=by
 have hz:=o8 hx;simp only[gW,cJ,aZ]at hz;have hla:=cT hz.1;have hc:=ia (a:=zb x) (b:=aX L) (bL hz.1) (gZ L) oO (by have:=lf.2 hL;omega)
 rw[aP,vQ]at hc;have hd: ∀ _:True,decide (ba x.natAbs L<0)=decide (x.natAbs<L):=fun _=>by rw[dK];simp only[cq];exact fP
 have e1:=getD_map cl s.vars [] hi;have l2:(s.vars.map cl).length=s.vars.length:=aB ..;have hzs:zs x=decide (x<0):=rfl;unfold fU;simp only[Zp,dI,gW,hzs];generalize ba x.natAbs L=cm at*;generalize s.vars.getD i []=b at*;have hbb:(b==([]:Bytes))=decide (b=[]):=by rw[dK,eT,cq]
 generalize decide (x.natAbs<L)=p at*;generalize decide (x<0)=q at*;generalize decide (b=[])=b0 at*;simp only[cl]at e1;clear hz hla hzs;unfold cG.pv
 cases p<;>cases b0<;>cases q<;>
 ·refine eW call199 func199 ?_;repeat' first|simp only[go_sem,seval,hbb,bne,hd oT,l2,e1]|refine cP hc ?_|refine oE ?_|apply xX<;>intro hc
  all_goals rfl
theorem Hr {s:cG} (hs:xf s) {i:Nat} (hi:i<s.vars.length) {a b:Int} {c:Nat} (h:a.natAbs+((c:Int)*b).natAbs<cW) (hc:c<cW) (hbl:b.natAbs<cW) (h0:s.vars.getD i []=[]->0<=a/\0<=b):aD 200 [s.pv,E i,Z a,N c,Z b] (Z (gi (bA s.groups) (s.vars.getD i []) a b c)):=by
 have hp:=OF h hc hbl;have e1:=getD_map cl s.vars [] hi;have l2:(s.vars.map cl).length=s.vars.length:=aB ..;have hor:=qw s (by have:=hs.ng;omega)
 have hoV:=dc hs.g;have hzl:(a+(c:Int)*b).natAbs<cW:=by have:=yq a (c*b);omega
 have hK:=fun hv=>tx hs hv
 have hmem:=aq [] hi;unfold gi
 by_cases hb:s.vars.getD i []=[]
 ·rw[ah hb];have ho:=hK (by rw[<-hb];exact hmem)
  have hpo:0<num (bA s.groups):=Nat.pos_of_ne_zero (vP hoV.1 ho);obtain⟨ha0,hb0⟩:=h0 hb;have hz0:0<=a+(c:Int)*b:=by have:=Int.mul_nonneg (Int.natCast_nonneg c) hb0;omega
  have hm:=iI hzl (wT hoV.2) hpo;rw[eE hoV.1,show N (a+(c:Int)*b).natAbs= .s (zb (a+c*b))from rfl]at hm
  have hres:(.agg [.b false,N ((a+(c:Int)*b).natAbs%num (bA s.groups))]:PV)=Z ((a+c*b)%num (bA s.groups)):=by
   have e:(a+(c:Int)*b)%num (bA s.groups)=(((a+(c:Int)*b).natAbs%num (bA s.groups):Nat):Int):=by
    rw[Int.natCast_emod,Int.natAbs_of_nonneg hz0]
   rw[e,Z,mj,mf]
  rw[<-hres];have hbb:(s.vars.getD i []==([]:Bytes))=true:=by simpa using hb
  generalize s.vars.getD i []=u at*;generalize a+(c:Int)*b=z at*;generalize bA s.groups=oq at*;simp only[cl]at e1;clear hs h hc hbl h0 hK hmem hres hoV hzl hpo ho;unfold cG.pv at*;refine eW call200 func200 ?_;repeat' first|simp only[go_sem,seval,Z,hbb,l2,e1]|refine cP hp ?_|refine cP hor ?_|refine cP hm ?_|refine oE ?_|apply xX<;>intro hc
  all_goals rfl
 ·rw[ae hb];have hbb:(s.vars.getD i []==([]:Bytes))=false:=by simpa using hb
  generalize s.vars.getD i []=u at*;generalize a+(c:Int)*b=z at*;simp only[cl]at e1;unfold cG.pv;refine eW call200 func200 ?_;repeat' first|simp only[go_sem,seval,Z,hbb,l2,e1]|refine cP hp ?_|refine oE ?_|apply xX<;>intro hc
  all_goals rfl
theorem OH {s:cG} (hs:xf s) {w:List Int} (hwl:w.length=s.vars.length) (hw: ∀x∈w,x.natAbs<cW) (hin:tw (bA s.groups) s.vars w=true):aD 198 [s.pv, .sl (w.map Zp)] (.b true):=by
 have hv:=hs.v;have nv:=hs.nv;have hB:=fun(i:Nat) (hi:i<s.vars.length) (x:Int) (hx:x.natAbs<cW) (L:Nat) (hL:L<cW)=>vZ (s:=s) hi hx hL
 have hor:=qw s (by have:=hs.ng;omega)
 have hoV:=dc hs.g;obtain⟨gs,vs,es⟩:=s;simp only at hv hwl nv hB hin hor hoV;generalize bA gs=oq at*;have l2:(vs.map cl).length=vs.length:=aB ..;have l5:(w.map Zp).length=vs.length:=by rw[aB];exact hwl
 unfold cG.pv at*;simp only at*;refine eW call198 func198 ?_;refine cU @l5 ?_;refine af (α:=Nat) (fun i=>vs.length-i) (fun i=>⟨[(1, .v (.sl (w.map Zp))),(2, .p 1000 0 0),(5,E' i)],[(1000,⟨0,[.v (.sl (gs.map eu)), .v (.sl (vs.map cl)), .v (.sl (es.map da.pv))],false,none⟩)],_⟩) (fun i=>i<=vs.length) 0 (fun _=>ay _) (aJ _) ?_ ?_
 ·exact lE
 ·intro i hi R hR
  by_cases hlt:i<vs.length
  ·have e1:=getD_map cl vs [] hlt;have e2:=getD_map Zp w 0 (i:=i) oO;have kb:=hv _ (aq [] hlt);have kw:=hw _ (aq 0 (show i<w.length by omega))
   have hgo:=hR (i+1) oO oO;have hlt2:=C3 hin hlt;have hc:=hB i hlt _ kw (dS oq (vs.getD i [])) (by unfold dS;split;exact wT hoV.2;exact mV kb.1)
   rw[hlt2]at hc;have hbl:(vs.getD i []=[]/\N (dS oq (vs.getD i []))= .s oq)\/(vs.getD i []≠[]/\N (dS oq (vs.getD i []))= .s (vs.getD i [])):=by
    by_cases h:vs.getD i []=[]
    ·exact .inl ⟨h,by rw[dS,ah h];exact eE hoV.1⟩
    ·exact .inr ⟨h,by rw[dS,ae h];exact eE kb.1⟩
   clear hR hin hs hB hlt2 kb kw;generalize N (dS oq (vs.getD i []))=lm at*;generalize vs.getD i []=b at*;generalize w.getD i 0=x at*;simp only[cl]at e1;simp only[Zp,dI,gW]at e2 hc;have hbb:(b==([]:Bytes))=decide (b=[]):=by rw[dK,eT,cq]
   rcases hbl with⟨hb,rfl⟩|⟨hb,rfl⟩
   all_goals
    first|rw[aI hb]at hbb|rw[aH hb]at hbb
    exact rv (aN @l2 (aN @l5 (aN @e1 (aN @e2 @hbb)))) @hgo @hor @hc
  ·obtain rfl:i=vs.length:=oO;exact gn @l5
theorem KS {s:cG} (hpp:BD c sl s) {w ms:List Int} {ch:Nat} (hwl:w.length=s.vars.length) (hml:ms.length=s.vars.length) (hch:ch<num c) (hW:tw (bA s.groups) s.vars w=true) (hM: ∀i,i<s.vars.length->fU (s.vars.getD i []) (ms.getD i 0) (lM (bA s.groups) c sl (s.vars.getD i []))=true):
  aD 93 [.agg [.s c, .s sl],s.pv, .sl (w.map Zp), .sl (ms.map Zp),N ch] (xr (bA s.groups) c sl s.vars (dT (bA s.groups) s.vars ms w ch)):=by
 have hr:=hpp.r;have hs:=hpp.g;have hb:=hs.v;have nv:=hs.nv;have hoV:=dc hs.g;have lo:=hoV.2;have hbo:=sk hpp;have c8:=eP hr.lc;have h64:=lr;have h33:256^33+(2^64)*dL+(2^64)<cW:=by unfold cW dL;decide+kernel
 have hwb: ∀i,i<s.vars.length->(w.getD i 0).natAbs<dL:=fun i hi=>bH (o7 (C3 hW hi)).1 (Ey lo (hb _ (aq [] hi)).2)
 have hmb: ∀i,i<s.vars.length->(ms.getD i 0).natAbs<256^33:=fun i hi=>jy (o7 (hM i hi)).1 (C5 hr lo (hb _ (aq [] hi)).2)
 have hwA: ∀x∈w,x.natAbs<cW:=C7 hwl fun i hi=>bH (hwb i hi) xz
 have hmA: ∀x∈ms,x.natAbs<cW:=C7 hml fun i hi=>by have:=hmb i hi;omega
 have hv1:=tY (w.map gW) (by rw[aB];omega)
 have hv2:=tY (ms.map gW) (by rw[aB];omega)
 have hrg:=OH hs hwl hwA hW;rw[P7,mz hwA]at hv1;rw[P7,mz hmA]at hv2;have hn:=aK (aX ch);rw[vB oO]at hn;have hl2: ∀n,n<cW->(aX n).length<1099511627776:=fun n hn=>by have:=lf.2 hn;omega
 have hcm:=xO (x:=ch) (y:=num c) (hl2 _ oO) (hl2 _ oO);rw[eE hr.vc]at hcm;have hd: ∀ _:True,decide (ba ch (num c)>=0)=false:=fun _=>by rw[Kc,aI hch];rfl
 have hI: ∀i,i<s.vars.length->(w.getD i 0).natAbs<cW/\(ms.getD i 0).natAbs+((ch:Int)*w.getD i 0).natAbs<cW/\(s.vars.getD i []=[]->0<=ms.getD i 0/\0<=w.getD i 0):=fun i hi=>by
  have h1:((ch:Int)*w.getD i 0).natAbs<=(2^64)*dL:=by
   rw[jg,Int.natAbs_natCast];exact j8 oO (ku (hwb i hi))
  have h2:=hmb i hi;exact⟨bH (hwb i hi) xz,oO,fun hv=>⟨(o7 (hM i hi)).2 hv,(o7 (C3 hW hi)).2 hv⟩⟩
 have hRs:=fun(i:Nat) (hi:i<s.vars.length) (a b:Int) (h:a.natAbs+((ch:Int)*b).natAbs<cW) (hbl:b.natAbs<cW) (h0:s.vars.getD i []=[]->0<=a/\0<=b)=>Hr hs hi h (show ch<cW by omega) hbl h0
 have hB:=fun(i:Nat) (hi:i<s.vars.length) (x:Int) (hx:x.natAbs<cW) (L:Nat) (hL:L<cW)=>vZ (s:=s) hi hx hL
 have hML: ∀i,i<s.vars.length->aD 199 [s.pv,E i,Zp (ms.getD i 0),N (lM (bA s.groups) c sl (s.vars.getD i []))] (.b true):=fun i hi=>by
  have:=vZ (s:=s) hi (x:=ms.getD i 0) (L:=lM (bA s.groups) c sl (s.vars.getD i [])) (by have:=hmb i hi;omega) (Nt hr lo (hb _ (aq [] hi)).2)
  rwa[hM i hi]at this
 have hRL: ∀i,i<s.vars.length->(gi (bA s.groups) (s.vars.getD i []) (ms.getD i 0) (w.getD i 0) ch).natAbs<cW:=fun i hi=>by
  have h1:=(hI i hi).2.1;have h2:=yq (ms.getD i 0) (ch*w.getD i 0);clear h33 hmb hwb hM hW;unfold gi;split
  ·by_cases h0:num (bA s.groups)=0
   ·rw[h0];simp only[Int.natCast_zero,Int.emod_zero];omega
   ·have g1:=gK (ms.getD i 0+(ch:Int)*w.getD i 0) (b:=num (bA s.groups)) oO;have g2:=gT (ms.getD i 0+(ch:Int)*w.getD i 0) (b:=num (bA s.groups)) oO;have:=wT lo;omega
  ·omega
 generalize ba ch (num c)=cm at*;clear hwb hmb hwA hmA hW hM h33 hpp;obtain⟨gs,us,es⟩:=s;simp only at hb nv hwl hml hI hRs hB hML hRL lo hbo⊢;generalize bA gs=o at*;have l2:(us.map cl).length=us.length:=aB ..;have l3:(us.map fun b=>N (lM o c sl b)).length=us.length:=aB ..
 have l6:(us.map fun b=>N (lR o c sl b)).length=us.length:=aB ..
 have l4:(w.map Zp).length=us.length:=by rw[aB];exact hwl
 have l5:(ms.map Zp).length=us.length:=by rw[aB];exact hml
 have hrl:=Av o us ms w ch;have rS: ∀{j:Nat},j<us.length->bj Zp ((dT o us ms w ch).take (j+1))=bj Zp ((dT o us ms w ch).take j)++[.v (.b (zs ((dT o us ms w ch).getD j 0))), .v (.s (zb ((dT o us ms w ch).getD j 0)))]:=fun h=>by
  rw[aQ 0 oO,uW]
 clear hs h64 c8;unfold cG.pv at*;simp only at*;refine eW call93 func93 ?_;refine Gj (aN @l2 (aN @l4 (aN @l5 (hd oT)))) @hbo @hv1 @hv2 @hn @hcm @hrg oT ?_;refine af (α:=Nat) (fun i=>us.length-i) (fun i=>⟨[(2, .v (.sl (w.map Zp))),(3, .v (.sl (ms.map Zp))),(4, .v (N ch)),(6, .p 1001 0 0),(12, .v (.sl (us.map fun b=>N (lM o c sl b)))),(13, .v (.sl (us.map fun b=>N (lR o c sl b)))),(15,E' i)],[(1001,⟨0,[.v (.sl (gs.map eu)), .v (.sl (us.map cl)), .v (.sl (es.map da.pv))],false,none⟩)],_⟩) (fun i=>i<=us.length) 0 (fun _=>ay _) (aJ _) ?_ ?_
 ·exact lE
 ·intro i hi R hR
  by_cases hlt:i<us.length
  ·have hgo:=hR (i+1) oO oO;have e2:=getD_map (fun b=>N (lM o c sl b)) us [] hlt
   have e4:=getD_map Zp ms 0 (i:=i) oO;have hc:=hML i hlt;clear hR hML hRs hB hv1 hv2 hI hRL rS;generalize us.getD i []=u at*;simp only[Zp,dI,gW]at e4 hc;exact gV (aN @l2 (aN @l3 (aN @l5 (aN @e2 @e4)))) @hgo @hc
  ·obtain rfl:i=us.length:=oO;clear hR hML hv1 hv2 hrg hn hcm hbo
   by_cases hpos:0<us.length
   rotate_left
   ·obtain rfl:us=[]:=gS.1 oO;exact SU @l5
   refine cU @l5 ?_;refine ai ?_;have e3:=getD_map Zp w 0 (i:=0) oO;have e4:=getD_map Zp ms 0 (i:=0) oO;have e2:=getD_map (fun b=>N (lR o c sl b)) us [] hpos
   have kb:=hb _ (aq [] hpos);have hx:=hI 0 hpos;have hp:=hRs 0 hpos (ms.getD 0 0) (w.getD 0 0) hx.2.1 hx.1 hx.2.2;have hgr:=ua (o:=o) (ms:=ms) (w:=w) (c:=ch) hpos;have hc:=hB 0 hpos (gi o (us.getD 0 []) (ms.getD 0 0) (w.getD 0 0) ch) (hRL 0 hpos) _ (E5 hr lo kb.2);have hgk: ∀k,k<0+1->(∀q,q<0->fU (us.getD q []) ((dT o us ms w ch).getD q 0) (lR o c sl (us.getD q []))=true)->fU (us.getD 0 []) ((dT o us ms w ch).getD 0 0) (lR o c sl (us.getD 0 []))=true->fU (us.getD k []) ((dT o us ms w ch).getD k 0) (lR o c sl (us.getD k []))=true:=fun k hk h1 h2=>by
    by_cases hkj:k<0
    ·exact h1 k hkj
    ·obtain rfl:k=0:=oO;exact h2
   rw[hgr]at hgk;have hbad:=fun h: ¬fU (us.getD 0 []) ((dT o us ms w ch).getD 0 0) (lR o c sl (us.getD 0 []))=true=>kY (p:=fun i=>fU (us.getD i []) ((dT o us ms w ch).getD i 0) (lR o c sl (us.getD i []))) hpos (fy.2 h)
   rw[<-zx,hgr]at hbad;have r1:=rS hpos;rw[hgr]at r1;clear hx kb hgr;generalize gi o (us.getD 0 []) (ms.getD 0 0) (w.getD 0 0) ch=z at*;generalize hin:fU (us.getD 0 []) z (lR o c sl (us.getD 0 []))=p at*;generalize us.getD 0 []=u at*;generalize lR o c sl u=Rr at*;simp only[Zp,dI,gW]at e3 e4 hc;clear hin;cases p
   ·rw[xr,hbad (by simp)]
    exact AN (aN @l2 (aN @l4 (aN @l5 (aN @l6 (aN @e2 (aN @e3 @e4)))))) @hp @hc
   ·refine Px (aN @l2 (aN @l4 (aN @l5 (aN @l6 (aN @e2 (aN @e3 @e4)))))) @hp @hc ?_;refine af (α:=Nat) (fun j=>us.length-(j+1)) (fun j=>⟨[(2, .v (.sl (w.map Zp))),(3, .v (.sl (ms.map Zp))),(4, .v (N ch)),(6, .p 1001 0 0),(13, .v (.sl (us.map fun b=>N (lR o c sl b)))),(16, .rs 1091 j 0 (j+1) 2),(17,E' (j+1))],[(1001,⟨0,[.v (.sl (gs.map eu)), .v (.sl (us.map cl)), .v (.sl (es.map da.pv))],false,none⟩),(1091,⟨j,bj Zp ((dT o us ms w ch).take (j+1)),true,some 77⟩)],1096⟩) (fun j=>j+1<=us.length/\ ∀k,k<j+1->fU (us.getD k []) ((dT o us ms w ch).getD k 0) (lR o c sl (us.getD k []))=true) 0 (fun _=>bZ rfl) ⟨hpos,fun k hk=>hgk k hk (fun j hj=>oO) rfl⟩ ?_ ?_
    ·rw[r1,List.take_zero,show bj Zp ([]:List Int)=[]from rfl,List.nil_append]
     exact lE
    ·clear e2 e3 e4 hp hc hbad r1 hgk;rintro j ⟨hj,hall⟩ R hR;have hlm:((dT o us ms w ch).take (j+1)).length=j+1:=by rw[bV];omega
     have q1:=cz ru ((dT o us ms w ch).take (j+1));have q2:=cM ru ((dT o us ms w ch).take (j+1));rw[hlm]at q1 q2
     by_cases hlt:j+1<us.length
     ·have e3:=getD_map Zp w 0 (i:=(j+1)) oO;have e4:=getD_map Zp ms 0 (i:=(j+1)) oO;have e2:=getD_map (fun b=>N (lR o c sl b)) us [] hlt
      have kb:=hb _ (aq [] hlt);have hx:=hI (j+1) hlt;have hp:=hRs (j+1) hlt (ms.getD (j+1) 0) (w.getD (j+1) 0) hx.2.1 hx.1 hx.2.2;have hgr:=ua (o:=o) (ms:=ms) (w:=w) (c:=ch) hlt;have hc:=hB (j+1) hlt (gi o (us.getD (j+1) []) (ms.getD (j+1) 0) (w.getD (j+1) 0) ch) (hRL (j+1) hlt) _ (E5 hr lo kb.2);have hgk: ∀k,k<(j+1)+1->(∀q,q<(j+1)->fU (us.getD q []) ((dT o us ms w ch).getD q 0) (lR o c sl (us.getD q []))=true)->fU (us.getD (j+1) []) ((dT o us ms w ch).getD (j+1) 0) (lR o c sl (us.getD (j+1) []))=true->fU (us.getD k []) ((dT o us ms w ch).getD k 0) (lR o c sl (us.getD k []))=true:=fun k hk h1 h2=>by
       by_cases hkj:k<(j+1)
       ·exact h1 k hkj
       ·obtain rfl:k=(j+1):=oO;exact h2
      rw[hgr]at hgk;have hbad:=fun h: ¬fU (us.getD (j+1) []) ((dT o us ms w ch).getD (j+1) 0) (lR o c sl (us.getD (j+1) []))=true=>kY (p:=fun i=>fU (us.getD i []) ((dT o us ms w ch).getD i 0) (lR o c sl (us.getD i []))) hlt (fy.2 h)
      rw[<-zx,hgr]at hbad;have r1:=rS hlt;rw[hgr]at r1;clear hx kb hgr;generalize gi o (us.getD (j+1) []) (ms.getD (j+1) 0) (w.getD (j+1) 0) ch=z at*;generalize hin:fU (us.getD (j+1) []) z (lR o c sl (us.getD (j+1) []))=p at*;generalize us.getD (j+1) []=u at*;generalize lR o c sl u=Rr at*;simp only[Zp,dI,gW]at e3 e4 hc;clear hin;cases p
      ·rw[xr,hbad (by simp)]
       clear hR hall hgk;exact AN (aN @l2 (aN @l4 (aN @l5 (aN @l6 (aN @e2 (aN @e3 (aN @e4 (aN @q1 @q2)))))))) @hp @hc
      ·have hgo:=hR (j+1) ⟨oO,fun k hk=>hgk k hk hall rfl⟩ oO
       rw[r1]at hgo;clear hR hall hgk;refine pV (aN @l2 (aN @l4 (aN @l5 (aN @l6 (aN @e2 (aN @e3 (aN @e4 (aN @q1 @q2)))))))) @hp @hc ?_;refine hgo _ ?_;refine lG ?_;all_goals exact fun c hc=>by rcases hc with hc|rfl|rfl<;>first|exact cR hc|rfl
     ·have hjl:us.length=j+1:=oO;have hgood2:zx o c sl us (dT o us ms w ch)=true:=lO fun k hk=>hall k oO
      rw[xr,hgood2];have hT:(dT o us ms w ch).take (j+1)=dT o us ms w ch:=cb oO;rw[hT]at q1 q2⊢;have q3:=ff ru (dT o us ms w ch);have q4:=dD ru (dT o us ms w ch);rw[hrl,hjl]at q4;clear hR;exact gn (aN @l4 (aN @hjl (aN @q1 (aN @q2 (aN @q3 (aN @q4 @fk))))))
