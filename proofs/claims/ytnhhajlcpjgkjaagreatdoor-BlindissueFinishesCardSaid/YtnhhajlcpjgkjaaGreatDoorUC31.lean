/- Part of the proof. -/
import Derived.Test.YtnhhajlcpjgkjaaGreatDoorUC28
set_option linter.all false
set_option maxHeartbeats 16000000
set_option maxRecDepth 100000
namespace Go.Proofs.Tryz
open Go Go.Dom Go.Num
variable {o:Bytes}
theorem Na (n:Bytes) (hn:n.length<=60):aE 108 [.s n] (.b (mi n)):=by
 refine eW call108 func108 ?_;refine qY ?_;refine ak (α:=Nat) (fun i=>n.length-i) (fun i=>⟨[(0, .v (.s n)),(3, .v (.i .i64 (i:Nat)))],[],_⟩) (fun i=>i<=n.length/\ ∀j,j<i->tX j (Ja n j)=false) 0 (fun _=>aD _) ⟨aR _,fun j hj=>oO⟩ ?_ ?_
 ·exact lE
 ·rintro i ⟨hi,ha⟩ R hR
  by_cases hlt:i<n.length
  ·have hlt':(i:Int)<n.length:=oO;have hbad:tX i (Ja n i)=true->mi n=false:=by
    intro h;unfold mi;have:(List.range n.length).all (fun i=> !tX i (Ja n i))=false:=by
     rw[dy];intro g;have:=bH.1 g i (fS.2 hlt);rw[h]at this;cases this
    rw[this];rfl
   have hgo:tX i (Ja n i)=false-> ∀s',(AS.mk [(0, .v (.s n)),(3, .v (.i .i64 ((i+1:Nat):Int)))] [] 1002).Le s'->R s':=by
    intro h s' hs;refine hR (i+1) ⟨oO,fun j hj=> ?_⟩ oO s' hs
    by_cases e:j=i
    ·subst e;exact h
    ·exact ha j oO
   clear hR ha;obtain⟨c,hcc⟩: ∃c,Ja n i=c:=⟨_,rfl⟩;have hcd:((n.getD i 0).toNat:Int)=c:=hcc;have h0:0<=c/\c<256:=by rw[<-hcd];have:=(n.getD i 0).toNat_lt;omega
   rw[hcc]at hbad hgo;unfold tX at hbad hgo;obtain⟨b1,h1⟩: ∃b,decide (c>=97)=b:=⟨_,rfl⟩;obtain⟨b2,h2⟩: ∃b,decide (c<=122)=b:=⟨_,rfl⟩;obtain⟨b3,h3⟩: ∃b,decide (c>=65)=b:=⟨_,rfl⟩;obtain⟨b4,h4⟩: ∃b,decide (c<=90)=b:=⟨_,rfl⟩;obtain⟨b5,h5⟩: ∃b,((i:Int)==0)=b:=⟨_,rfl⟩;obtain⟨b6,h6⟩: ∃b,(c !=95)=b:=⟨_,rfl⟩;obtain⟨b7,h7⟩: ∃b,decide (c<48)=b:=⟨_,rfl⟩;obtain⟨b8,h8⟩: ∃b,decide (c>57)=b:=⟨_,rfl⟩;rw[h1,h2,h3,h4,h5,h6,h7,h8]at hbad hgo;have e1:decide ((i:Int)<(n.length:Int))=true:=aV hlt';repeat' first|simp only[go_sem,seval,hcd,h1,h2,h3,h4,h5,h6,h7,h8,e1]|refine oE ?_|apply xX<;>intro hc
   all_goals clear h1 h2 h3 h4 h5 h6 h7 h8 hcd hcc h0
   all_goals try simp only[dW,wS]at*
   all_goals subst_vars
   all_goals first
     |(refine hgo rfl _ ?_;(refine AS.Le.of (by first|decide|omega) ?_ ?_<;>simp[dA,dz,aS,aB,AV.bd,AV.bd.bdL,u8,aq,au,aA]);done)
     |(rw[hbad rfl];done)
     |(cases b6<;>first|(simp at hc;done)|(refine hgo rfl _ ?_;(refine AS.Le.of (by first|decide|omega) ?_ ?_<;>simp[dA,dz,aS,aB,AV.bd,AV.bd.bdL,u8,aq,au,aA]);done)|(rw[hbad rfl];done)|fail)
     |fail
  ·obtain rfl:i=n.length:=oO;have e:mi n=(!(n==[])&&decide (n.length<=32)):=by
    unfold mi;have:(List.range n.length).all (fun i=> !tX i (Ja n i))=true:=by
     rw[bH];intro j hj;rw[ha j (fS.1 hj)];rfl
    rw[this,cj]
   rw[e];have e2:decide ((n.length:Int)<=32)=decide (n.length<=32):=by rw[fz];omega
   clear ha hR e;exact YL
theorem JE {m:Bytes} (hm:m≠[]):(m.getD (m.length-1) 0).toNat%2=num m%2:=by
 obtain⟨r,c,rfl⟩: ∃r c,m=r++[c]:=⟨_,_,(IE hm).symm⟩;rw[yt];have:(r++[c]).getD ((r++[c]).length-1) 0=c:=by simp[ca]
 rw[this];omega
theorem mV {m:Bytes} (lm:m.length<=8) (lo:o.length<=8):aE 109 [G m o] (E (gE m o)):=by
 have v1:=aI m;have v2:=aI o;unfold gE
 by_cases hv:aa m=true/\aa o=true
 case neg=>
  have:(aa m&&aa o)=false:=by rw[dy];intro g;simp at g;exact hv g
  rw[this];generalize aa m=b1 at*;generalize aa o=b2 at*;refine eW call109 func109 ?_;exact Og @v1 @v2
 obtain⟨vm,vo⟩:=hv;have nm:=dO lm;have no:=dO lo;rw[vm]at v1;rw[vo]at v2
 by_cases ho:o=[]
 ·subst ho;have e0:(if !(aa m&&aa [])then(3:Int)else if(([]:Bytes)==[])then(if eA m []then 0 else 13)else if num m<=1\/num []<=1\/(num m-1)%num []≠0 then 13 else 0)=if eA m []then 0 else 13:=by
   rw[vm];rfl
  rw[e0]
  by_cases hm:m=[]
  ·subst hm;have:eA [] []=false:=by decide
   rw[this];refine eW call109 func109 ?_;exact zA @nn @v1 @v2
  have hb:(m==([]:Bytes))=false:=by simpa using hm
  have hl:=JE hm;have hlen:0<m.length:=lh.2 hm;have hix: ∀ _:True,((m.length:Int)-1).toNat=m.length-1:=fun _=>oO
  have hmod: ∀c:UInt8,((c.toNat:Nat):Int).tmod 2=((c.toNat%2:Nat):Int):=fun c=>rfl
  have ho8:=fZ (a:=m) (b:=[8]) (bG vm) (.inr oC) oO oC;rw[show num ([8]:Bytes)=8 from rfl]at ho8
  have hle: ∀ _:True,decide (aZ (num m) 8<=0)= !decide (8<num m):=fun _=>by
   rw[dk];simp only[bM,dW,lD];unfold aZ;split<;>(try split)<;>omega
  have hg:eA m []=(decide (num m%2=1)&&decide (8<num m)):=by
   unfold eA;rw[vm,kG,Nat.pow_zero,iq];rfl
  rw[hg,<-hl];generalize aZ (num m) 8=cm at*;obtain⟨c,hcc⟩: ∃c,c=m.getD (m.length-1) 0:=⟨_,rfl⟩;rw[<-hcc];clear hl hg e0;refine eW call109 func109 ?_;repeat' first|simp only[go_sem,seval,nn,hb,hix oT,<-hcc,hmod,hle oT]|refine cP v1 ?_|refine cP v2 ?_|refine cP ho8 ?_|refine oE ?_|apply xX<;>intro hc
  all_goals first|(simp_all;done)|(simp_all;omega)|skip
 have hb:(o==([]:Bytes))=false:=by simpa using ho
 have hop:num o≠0:=fun e=>ho ((sL vo).1 e)
 have e1:N (num m)= .s m:=congrArg PV.s (fm vm);have e2:N (num o)= .s o:=congrArg PV.s (fm vo);rw[vm,vo,hb];simp only[cX,cl,bO,ar];have q0:(m==([]:Bytes))=decide (num m=0):=by
  have:=xB (num m) 0;rw[fm vm]at this;exact this
 have q1:(m==([1]:Bytes))=decide (num m=1):=by
  have:=xB (num m) 1;rw[fm vm]at this;exact this
 have q2:(o==([1]:Bytes))=decide (num o=1):=by
  have:=xB (num o) 1;rw[fm vo]at this;exact this
 by_cases hbad:num m=0\/num m=1\/num o=1
 ·rw[ah oO];refine eW call109 func109 ?_;repeat' first|simp only[go_sem,seval,hb,q0,q1,q2]|refine cP v1 ?_|refine cP v2 ?_|refine oE ?_|apply xX<;>intro hc
  all_goals (exfalso;simp_all)
 have h1:=lL m [1] oO oC (show 1<=num m by omega)
 rw[show num ([1]:Bytes)=1 from rfl]at h1
 have h2:=pQ (a:=bR (num m-1)) (b:=o) (fF _) (bG vo) oO (by
  have:=lN (show num m-1<(2^64) by omega)
  omega) oO
 rw[aY]at h2;have hz: ∀ _:True,(bR ((num m-1)%num o)==([]:Bytes))=decide ((num m-1)%num o=0):=fun _=>by
  rw[dk];simp[gA]
 have t0:decide (num m=0)=false:=bL oO;have t1:decide (num m=1)=false:=bL oO;have t2:decide (num o=1)=false:=bL oO;have ei:(if num m<=1\/num o<=1\/(num m-1)%num o≠0 then(13:Int)else 0)=if(num m-1)%num o=0 then 0 else 13:=by
  by_cases g:(num m-1)%num o=0
  ·rw[af oO,ah g]
  ·rw[ah oO,af g]
 rw[ei];refine eW call109 func109 ?_;exact VZ (aN @hb (aN @q0 (aN @q1 (aN @q2 (aN @t0 (aN @t1 (aN @t2 (hz oT)))))))) @v1 @v2 @h1 @h2
theorem AM {m:Bytes} (lm:m.length<=8) (o:Bytes) {x:Bytes} (hE:gE m o=0) (vx:aa x=true):aE 115 [G m o, .s x] (.b (jF m o x)):=by
 by_cases ho:o=[]
 ·subst ho;obtain⟨vm,-,m1,hr,-⟩:=mc hE;have hg:=hr rfl;have lx:=dD vx;have hor:=fZ (bG vx) (bG vm) oO oO;have hcm:=EA (ov vx) (ov vm);rw[dZ vx,dZ vm]at hcm;have hlt: ∀ _:True,decide (aZ (num x) (num m)<0)=decide (num x<num m):=fun _=>Z7 _ _
  have e:jF m [] x=(!(x==[])&&decide (num x<num m)&&decide (Nat.gcd (num x) (num m)=1)):=by
   simp[jF,dx,hg,vx]
  rw[e];generalize aZ (num x) (num m)=cm at*;refine eW call115 func115 ?_;repeat' first|simp only[go_sem,seval,nn,hlt oT,MI]|refine cP hor ?_|refine cP hcm ?_|refine oE ?_|apply xX<;>intro hc
  all_goals simp_all
  all_goals (intros;omega)
 ·have hb:(o==([]:Bytes))=false:=by simpa using ho
  have h:=Ez lm o x;unfold jF;rw[hb];simp only[bO,ar];refine eW call115 func115 ?_;exact lF @hb @h
theorem nQ {m:Bytes} (lm:m.length<=8) (lo:o.length<=8) (x:Bytes):aE 110 [G m o, .s x] (.b (vE m o x)):=by
 have h1:=mV lm lo;have hv:=aI x
 by_cases hE:gE m o=0
 ·rw[hE]at h1
  by_cases vx:aa x=true
  ·have h2:=AM lm o hE vx;rw[vx]at hv;unfold vE;rw[hE];generalize jF m o x=b at*;refine eW call110 func110 ?_;exact YM @h1 @hv @h2 oT
  ·have vx:aa x=false:=by simpa using vx
   rw[vx]at hv;have:vE m o x=false:=by
    rw[dy];intro g;simp only[vE,ba]at g;have:=((cL hE).1 g.2).1;rw[vx]at this;cases this
   rw[this];refine eW call110 func110 ?_;exact z2 @h1 @hv
 ·have:vE m o x=false:=by simp[vE,hE]
  rw[this];generalize gE m o=z at*;refine eW call110 func110 ?_;exact Om @h1
theorem J3 {m:Bytes} (lm:m.length<=8) {x:Nat} {ng:Bool} {e:Bytes} (hE:gE m o=0) (hx:GP m o x) (he:aa e=true) (hz:(ng&&e==[])=false):aE 117 [G m o,N x, .agg [.b ng, .s e]] (N (dw (num m) x ng (num e))):=by
 obtain⟨vm,-,m1,-,-⟩:=mc hE;have hp:=Kb (m:=num m) hx.lt he hz (dO lm) hx.RF;rw[dZ vm]at hp;refine eW call117 func117 ?_;exact z1 @hp
noncomputable def nP (M:Nat):Nat->List (Nat×Bool×Bytes)->Nat
 |x,[]=>x
 |x,(a,ng,e)::r=>nP M (x*dw M a ng (num e)%M) r
def rX (p:Nat×Bool×Bytes):PV:= .agg [.b p.2.1, .s p.2.2]
theorem ky {m:Bytes} (lm:m.length<=8) (lo:o.length<=8) (hE:gE m o=0) (l:List (Nat×Bool×Bytes)) (hl:l.length<1000000) (h: ∀p∈l,GP m o p.1/\aa p.2.2=true/\(p.2.1&&p.2.2==[])=false):aE 49 [G m o, .sl (l.map fun p=>N p.1), .sl (l.map rX)] (.tup [N (nP (num m) 1 l),E 0]):=by
 obtain⟨vm,-,m1,-,-⟩:=mc hE;have nm:=dO lm;have hck:=mV lm lo;rw[hE]at hck;have d0:Nat×Bool×Bytes:=(0,false,[]);have l1:(l.map fun p=>N p.1).length=l.length:=aL ..
 have l2:(l.map rX).length=l.length:=aL ..;have g1: ∀{i:Nat},i<l.length->(l.map fun p=>N p.1).getD i .fn0=N (l.getD i d0).1:=fun hi=>getD_map (fun p=>N p.1) l d0 hi
 have g2: ∀{i:Nat},i<l.length->(l.map rX).getD i .fn0=rX (l.getD i d0):=fun hi=>getD_map rX l d0 hi
 refine eW call49 func49 ?_;refine qY ?_;refine ak (α:=Nat) (fun i=>l.length-i) (fun i=>⟨[(1, .v (.sl (l.map fun p=>N p.1))),(2, .v (.sl (l.map rX))),(3, .p 1000 0 0),(8,E' i)],[(1000,⟨0,[.v (.s m), .v (.s o)],false,none⟩)],_⟩) (fun i=>i<=l.length) 0 (fun _=>aD _) (aR _) ?_ ?_
 ·exact lE
 ·intro i hi R hR
  by_cases hlt:i<l.length
  ·obtain⟨k1,k2,k3⟩:=h _ (aC d0 hlt);have e1:=g1 hlt;have hv:=aI (bR (l.getD i d0).1);have:=k1.lt;rw[vN (show(l.getD i d0).1<(2^64) by omega)]at hv
   clear k1 k2 k3 this;have hgo:=hR (i+1) oO oO;exact kp (aN @l1 @e1) @hgo @hv
  ·obtain rfl:i=l.length:=oO;refine dY @l1 ?_;refine ak (α:=Nat) (fun i=>l.length-i) (fun i=>⟨[(1, .v (.sl (l.map fun p=>N p.1))),(2, .v (.sl (l.map rX))),(3, .p 1000 0 0),(9,E' i)],[(1000,⟨0,[.v (.s m), .v (.s o)],false,none⟩)],_⟩) (fun i=>i<=l.length) 0 (fun _=>aD _) (aR _) ?_ ?_
   ·exact lE
   ·intro i hi R hR
    by_cases hlt:i<l.length
    ·obtain⟨k1,k2,k3⟩:=h _ (aC d0 hlt);have e1:=g2 hlt;have hv:=jQ (l.getD i d0).2.1 (l.getD i d0).2.2;rw[k2,k3]at hv;clear k1 k2 k3;have hgo:=hR (i+1) oO oO;repeat' first|simp only[go_sem,seval,l2,e1,rX]|refine cP hv ?_|refine oE ?_|apply xX<;>intro hc
     refine hgo _ ?_;exact lE
    ·obtain rfl:i=l.length:=oO;refine rU (aN @l1 @l2) @hck ?_;refine ak (α:=Nat) (fun i=>l.length-i) (fun i=>⟨[(1, .v (.sl (l.map fun p=>N p.1))),(2, .v (.sl (l.map rX))),(3, .p 1000 0 0),(11,E' i)],[(1000,⟨0,[.v (.s m), .v (.s o)],false,none⟩)],_⟩) (fun i=>i<=l.length) 0 (fun _=>aD _) (aR _) ?_ ?_
     ·exact lE
     ·intro i hi R hR
      by_cases hlt:i<l.length
      ·obtain⟨k1,k2,k3⟩:=h _ (aC d0 hlt);have e1:=g1 hlt;have hh:=k1.has hE lm;have hv:=AM lm o (x:=bR (l.getD i d0).1) hE ((cL hE).1 hh).1;rw[hh]at hv;clear k1 k2 k3 hh;have hgo:=hR (i+1) oO oO;exact kp (aN @l1 @e1) @hgo @hv
      ·obtain rfl:i=l.length:=oO;refine dY @l1 ?_;refine ak (α:=Nat×Nat) (fun s=>l.length-s.1) (fun s=>⟨[(1, .v (.sl (l.map fun p=>N p.1))),(2, .v (.sl (l.map rX))),(3, .p 1000 0 0),(12, .v (N s.2)),(13,E' s.1)],[(1000,⟨0,[.v (.s m), .v (.s o)],false,none⟩)],_⟩) (fun s=>s.1<=l.length/\s.2<num m/\nP (num m) s.2 (l.drop s.1)=nP (num m) 1 l) (0,1) (fun _=>aD _) ⟨aR _,m1,rfl⟩ ?_ ?_
       ·(refine AS.Le.of (by first|decide|omega) ?_ ?_<;>simp[dA,dz,aS,aB,AV.bd,AV.bd.bdL,u8,aq,au,aA])
        all_goals rfl
       ·rintro⟨i,x⟩ ⟨hi,hx,hf⟩ R hR;simp only at hi hx hf
        by_cases hlt:i<l.length
        ·obtain⟨k1,k2,k3⟩:=h _ (aC d0 hlt);have e1:=g1 hlt;have e2:=g2 hlt;rw[bc d0 hlt]at hf;have hraw:=J3 lm hE k1 k2 k3;have hpl:dw (num m) (l.getD i d0).1 (l.getD i d0).2.1 (num (l.getD i d0).2.2)<num m:=aP _ oO;have hgo:=hR (i+1,x*dw (num m) (l.getD i d0).1 (l.getD i d0).2.1 (num (l.getD i d0).2.2)%num m) ⟨by show i+1<= _;omega,aP _ oO,hf⟩ (by show l.length-(i+1)<l.length-i;omega)
         clear hf hR k1 k2 k3;generalize dw (num m) (l.getD i d0).1 (l.getD i d0).2.1 (num (l.getD i d0).2.2)=y at*;have hmm:=XG (a:=x) (b:=y) (m:=num m) oO oO nm oO;rw[dZ vm]at hmm;repeat' first|simp only[go_sem,seval,l1,l2,e1,e2,rX]|refine cP hraw ?_|refine cP hmm ?_|refine oE ?_|apply xX<;>intro hc
         refine hgo _ ?_;exact lE
        ·obtain rfl:i=l.length:=oO;rw[dn]at hf;simp only[nP]at hf;rw[<-hf];exact gU @l1
theorem GG {s:cK} (hs:Rx s) (hv: ∀b∈s.vars,aa b=true):aE 372 [s.pv] (.b true):=by
 obtain⟨gs,vs,es⟩:=s;obtain⟨hg,hq,ng,nv,ne⟩:=hs;simp only at hg hv hq ng nv ne;have l1:(gs.map dS).length=gs.length:=aL ..;have l2:(vs.map cO).length=vs.length:=aL ..;have l3:(es.map dr.pv).length=es.length:=aL ..;unfold cK.pv;simp only;refine eW call372 func372 ?_;refine qY ?_;refine ak (α:=Nat) (fun i=>gs.length-i) (fun i=>⟨[(1, .p 1000 0 0),(3,E' i)],[(1000,⟨0,[.v (.sl (gs.map dS)), .v (.sl (vs.map cO)), .v (.sl (es.map dr.pv))],false,none⟩)],_⟩) (fun i=>i<=gs.length) 0 (fun _=>aD _) (aR _) ?_ ?_
 ·exact lE
 ·intro i hi R hR
  by_cases hlt:i<gs.length
  ·have e1:=getD_map dS gs eU hlt;have k:=hg _ (aC eU hlt);have hgo:=hR (i+1) oO oO;obtain⟨x,hx⟩: ∃x,x=gs.getD i eU:=⟨_,rfl⟩;rw[<-hx]at e1 k;obtain⟨m,o⟩:=x;obtain⟨vm,vo,-⟩:=mc k.1;have v1:=aI m;have v2:=aI o;rw[vm]at v1;rw[vo]at v2;clear hR hx k vm vo;simp only[dS]at e1;exact zu (aN @l1 @e1) @hgo @v1 @v2
  ·obtain rfl:i=gs.length:=oO;refine dY @l1 ?_;refine ak (α:=Nat) (fun i=>vs.length-i) (fun i=>⟨[(1, .p 1000 0 0),(4,E' i)],[(1000,⟨0,[.v (.sl (gs.map dS)), .v (.sl (vs.map cO)), .v (.sl (es.map dr.pv))],false,none⟩)],_⟩) (fun i=>i<=vs.length) 0 (fun _=>aD _) (aR _) ?_ ?_
   ·exact lE
   ·intro i hi R hR
    by_cases hlt:i<vs.length
    ·have e1:=getD_map cO vs [] hlt;have k:=hv _ (aC [] hlt);have hgo:=hR (i+1) oO oO;obtain⟨x,hx⟩: ∃x,x=vs.getD i []:=⟨_,rfl⟩;rw[<-hx]at e1 k;have v1:=aI x;rw[k]at v1;clear hR hx k;simp only[cO]at e1;exact kp (aN @l2 @e1) @hgo @v1
    ·obtain rfl:i=vs.length:=oO;refine dY @l2 ?_;refine ak (α:=Nat) (fun i=>es.length-i) (fun i=>⟨[(1, .p 1000 0 0),(5,E' i)],[(1000,⟨0,[.v (.sl (gs.map dS)), .v (.sl (vs.map cO)), .v (.sl (es.map dr.pv))],false,none⟩)],_⟩) (fun i=>i<=es.length) 0 (fun _=>aD _) (aR _) ?_ ?_
     ·exact lE
     ·intro i hi R hR
      by_cases hlt:i<es.length
      ·have e1:=getD_map dr.pv es gN hlt;obtain⟨q1,q2,q3,q4,q5⟩:=hq _ (aC gN hlt);have hgo:=hR (i+1) oO oO;obtain⟨x,hx⟩: ∃x,x=es.getD i gN:=⟨_,rfl⟩;rw[<-hx]at e1 q1 q2 q3 q4 q5;obtain⟨gr,tg,ts⟩:=x;simp only at q1 q2 q3 q4 q5;have hgE:=(hg _ (aC eU (show gr.toNat<gs.length by omega))).1
       have v1:=aI tg;rw[gG hgE q3]at v1;have l4:(ts.map eD.pv).length=ts.length:=aL ..;simp only[dr.pv]at e1;clear hR hx q3;have hd1:decide (gr<0)=false:=bL oO;have hd2:decide (gr>=(gs.length:Int))=false:=bL oO;refine rU (aN @l1 (aN @l3 (aN @l4 (aN @e1 (aN @hd1 @hd2))))) @v1 ?_;refine ak (α:=Nat) (fun i=>ts.length-i) (fun j=>⟨[(1, .p 1000 0 0),(5,E' i),(6, .p 1025 0 0),(7,E' j)],[(1000,⟨0,[.v (.sl (gs.map dS)), .v (.sl (vs.map cO)), .v (.sl (es.map dr.pv))],false,none⟩),(1025,⟨0,[.v (.i .i64 gr), .v (.s tg), .v (.sl (ts.map eD.pv))],false,some 184⟩)],_⟩) (fun i=>i<=ts.length) 0 (fun _=>aD _) (aR _) ?_ ?_
       ·exact lE
       ·intro j hj R' hR'
        by_cases hjt:j<ts.length
        ·have e2:=getD_map eD.pv ts fj hjt;obtain⟨t1,t2,t3,t4⟩:=q5 _ (aC fj hjt);have hgo':=hR' (j+1) oO oO;obtain⟨y,hy⟩: ∃y,y=ts.getD j fj:=⟨_,rfl⟩;rw[<-hy]at e2 t1 t2 t3 t4;obtain⟨b,v,n,a⟩:=y;simp only at t1 t2 t3 t4;have v2:=aI b;rw[gG hgE t3]at v2;have v3:=jQ n a;rw[show(aa a&& !(n&&a==[]))=true from t4]at v3
         simp only[eD.pv]at e2;clear hR' hy t3 t4 q5;have hd3:decide (v<0)=false:=bL oO;have hd4:decide (v>=(vs.length:Int))=false:=bL oO;refine tO (aN @l2 (aN @l4 (aN @e2 (aN @hd3 @hd4)))) @v2 @v3 ?_;refine hgo' _ ?_;exact lE
        ·obtain rfl:j=ts.length:=oO;exact ko (aN @l3 @l4) @hgo
      ·obtain rfl:i=es.length:=oO;exact gU @l3
theorem Nu {s:cK} (hs:Rx s):aE 451 [s.pv] (.b false):=by
 obtain⟨gs,vs,es⟩:=s;obtain⟨hg,hq,ng,nv,ne⟩:=hs;simp only at hg hq ng nv ne;have l1:(gs.map dS).length=gs.length:=aL ..;have l2:(vs.map cO).length=vs.length:=aL ..;have l3:(es.map dr.pv).length=es.length:=aL ..;unfold cK.pv;simp only;refine eW call451 func451 ?_;refine qY ?_;refine ak (α:=Nat) (fun i=>es.length-i) (fun i=>⟨[(1, .p 1000 0 0),(3,E' i)],[(1000,⟨0,[.v (.sl (gs.map dS)), .v (.sl (vs.map cO)), .v (.sl (es.map dr.pv))],false,none⟩)],_⟩) (fun i=>i<=es.length) 0 (fun _=>aD _) (aR _) ?_ ?_
 ·exact lE
 ·intro i hi R hR
  by_cases hlt:i<es.length
  ·have e1:=getD_map dr.pv es gN hlt;have q4:=(hq _ (aC gN hlt)).2.2.2.1;have hgo:=hR (i+1) oO oO;obtain⟨x,hx⟩: ∃x,x=es.getD i gN:=⟨_,rfl⟩;rw[<-hx]at e1 q4;obtain⟨gr,tg,ts⟩:=x;simp only at q4;have l4:(ts.map eD.pv).length=ts.length:=aL ..;simp only[dr.pv]at e1;clear hR hx;exact ko (aN @l3 (aN @l4 @e1)) @hgo
  ·obtain rfl:i=es.length:=oO;have hd:decide ((es.length:Int)>64)=false:=bL oO;exact gU (aN @l1 (aN @l2 (aN @l3 @hd)))
theorem Ci {s:cK} (hs:Rx s):aE 452 [s.pv] (.b true):=by
 obtain⟨gs,vs,es⟩:=s;obtain⟨hg,hq,ng,nv,ne⟩:=hs;simp only at hg hq ng nv ne;have l1:(gs.map dS).length=gs.length:=aL ..;have l3:(es.map dr.pv).length=es.length:=aL ..;unfold cK.pv;simp only;refine eW call452 func452 ?_;refine qY ?_;refine ak (α:=Nat) (fun i=>gs.length-i) (fun i=>⟨[(1, .p 1000 0 0),(3,E' i)],[(1000,⟨0,[.v (.sl (gs.map dS)), .v (.sl (vs.map cO)), .v (.sl (es.map dr.pv))],false,none⟩)],_⟩) (fun i=>i<=gs.length) 0 (fun _=>aD _) (aR _) ?_ ?_
 ·exact lE
 ·intro i hi R hR
  by_cases hlt:i<gs.length
  ·have e1:=getD_map dS gs eU hlt;have k:=hg _ (aC eU hlt);have hgo:=hR (i+1) oO oO;obtain⟨x,hx⟩: ∃x,x=gs.getD i eU:=⟨_,rfl⟩;rw[<-hx]at e1 k;obtain⟨m,o⟩:=x;have v1:=mV k.2.1 k.2.2;rw[k.1]at v1;clear hR hx k;simp only[dS]at e1;exact kp (aN @l1 @e1) @hgo @v1
  ·obtain rfl:i=gs.length:=oO;refine dY @l1 ?_;refine ak (α:=Nat) (fun i=>es.length-i) (fun i=>⟨[(1, .p 1000 0 0),(4,E' i)],[(1000,⟨0,[.v (.sl (gs.map dS)), .v (.sl (vs.map cO)), .v (.sl (es.map dr.pv))],false,none⟩)],_⟩) (fun i=>i<=es.length) 0 (fun _=>aD _) (aR _) ?_ ?_
   ·exact lE
   ·intro i hi R hR
    by_cases hlt:i<es.length
    ·have e1:=getD_map dr.pv es gN hlt;obtain⟨q1,q2,q3,q4,q5⟩:=hq _ (aC gN hlt);have hgo:=hR (i+1) oO oO;obtain⟨x,hx⟩: ∃x,x=es.getD i gN:=⟨_,rfl⟩;rw[<-hx]at e1 q1 q2 q3 q4 q5;obtain⟨gr,tg,ts⟩:=x;simp only at q1 q2 q3 q4 q5;have hgl:gr.toNat<gs.length:=oO;have kg:=hg _ (aC eU hgl);have e3:=getD_map dS gs eU hgl;obtain⟨z,hz⟩: ∃z,z=gs.getD gr.toNat eU:=⟨_,rfl⟩;rw[<-hz]at q3 q5 kg e3;obtain⟨m,o⟩:=z;simp only at q3 q5 kg;have hIn: ∀{x:Bytes},jF m o x=true->vE m o x=true:=fun h=>by simp[vE,kg.1,h]
     have v1:=nQ kg.2.1 kg.2.2 tg;rw[hIn q3]at v1;have v2:=nQ kg.2.1 kg.2.2;have l4:(ts.map eD.pv).length=ts.length:=aL ..;simp only[dS]at e3;simp only[dr.pv]at e1;clear hR hx hz q3;refine rU (aN @l1 (aN @l3 (aN @e1 @e3))) @v1 ?_;refine ak (α:=Nat) (fun i=>ts.length-i) (fun j=>⟨[(1, .p 1000 0 0),(4,E' i),(5, .p 1019 0 0),(6, .p 1027 0 0),(7,E' j)],[(1000,⟨0,[.v (.sl (gs.map dS)), .v (.sl (vs.map cO)), .v (.sl (es.map dr.pv))],false,none⟩),(1019,⟨0,[.v (.i .i64 gr), .v (.s tg), .v (.sl (ts.map eD.pv))],false,some 184⟩),(1027,⟨0,[.v (.s m), .v (.s o)],false,some 26⟩)],_⟩) (fun i=>i<=ts.length) 0 (fun _=>aD _) (aR _) ?_ ?_
     ·exact lE
     ·intro j hj R' hR'
      by_cases hjt:j<ts.length
      ·have e2:=getD_map eD.pv ts fj hjt;have t3:=(q5 _ (aC fj hjt)).2.2.1;have hgo':=hR' (j+1) oO oO;obtain⟨y,hy⟩: ∃y,y=ts.getD j fj:=⟨_,rfl⟩;rw[<-hy]at e2 t3;obtain⟨b,v,n,a⟩:=y;simp only at t3;have v3:=v2 b;rw[hIn t3]at v3;simp only[eD.pv]at e2;clear hR' hy t3 q5;refine jd (aN @l4 @e2) @v3 ?_;refine hgo' _ ?_;exact lE
      ·obtain rfl:j=ts.length:=oO;exact ko @l4 @hgo
    ·obtain rfl:i=es.length:=oO;exact gU @l3
