/- Part of the proof. -/
import Derived.Test.YtnhhajlcpjgkjaaGreatDoorUC27
set_option linter.all false
set_option maxHeartbeats 16000000
set_option maxRecDepth 100000
namespace Go.Dom
structure cT {α:Type} (f:α->PV) (z:Nat):Prop where
 len: ∀x,(f x).cells.length=z
 one: ∀x,∀y∈(f x).cells,y.one=true
 z1:z=1-> ∀x,(f x).cells=[f x]
 zn:z≠1-> ∀x,f x= .agg (f x).cells
def aX {α:Type} (f:α->PV) (l:List α):List AV:=(l.flatMap fun x=>(f x).cells).map AV.v
variable {α:Type} {f:α->PV} {z:Nat}
variable {i k n ver:Nat}
theorem cT.s:cT PV.s 1:=⟨fun _=>rfl,fun _ y hy=>by cases fR.1 hy;rfl,fun _ _=>rfl,fun h=>aM rfl h⟩
theorem Jt (h:cT f z) (l:List α):(l.flatMap fun x=>(f x).cells).length=l.length*z:=by
 induction l with
 |nil=>simp
 |cons x l ih=>rw[fb,bY,ih,h.len,List.length_cons,kf];omega
theorem cF (h:cT f z) (l:List α):(aX f l).length=l.length*z:=by rw[aX,aL,Jt h]
theorem cR (h:cT f z) (l:List α):(aX f l).take (l.length*z)=aX f l:=c9 (by rw[cF h];exact aD _)
theorem dU (h:cT f z) (l:List α):(aX f l).all AV.one=true:=by
 rw[bH];intro y hy;obtain⟨c,hc,rfl⟩:=cv.1 hy;obtain⟨x,-,hx⟩:=j6.1 hc;exact h.one x c hx
theorem eJ (hf:Nat->Option aH) (k:Nat) (l:List α):aW (view hf (k+1)) (aX f l)=some (l.flatMap fun x=>(f x).cells):=ie _ _ _
theorem GH (hf:Nat->Option aH) (k:Nat) (l:List α):(aX f l).flatMap (bC hf (k+1))=[]:=by
 unfold aX
 induction (l.flatMap fun x=>(f x).cells)with
 |nil=>rfl
 |cons x l ih=>simp_all[bC]
theorem dj (h:cT f z) (l:List α):chunk z l.length (l.flatMap fun x=>(f x).cells)=l.map f:=by
 induction l with
 |nil=>rfl
 |cons x l ih=>
  have hl:=h.len x;rw[List.length_cons,fb,chunk,List.drop_left' hl,ih,bV];congr 1
  by_cases h1:z=1
  ·rw[ah h1,h.z1 h1 x];rfl
  ·rw[af h1,List.take_left' hl];exact(h.zn h1 x).symm
theorem cI {l:List α} {c:AV} (h:c∈aX f l):c.bd n=true:=by
 obtain⟨x,-,rfl⟩:=cv.1 h;rfl
theorem cu (l:List α) (x:α):aX f (l++[x])=aX f l++(f x).cells.map AV.v:=by
 simp[aX,tH]
theorem qn (h: ∀x,(f x).cells=[f x]) (l:List α) (d:α) (hi:i<l.length):(aX f l).getD i .u= .v (f (l.getD i d)):=by
 have e:aX f l=l.map fun x=>AV.v (f x):=by
  unfold aX;clear hi
  induction l with
  |nil=>rfl
  |cons x l ih=>rw[fb,h x,lu,ih];rfl
 rw[e];simp[ca,hi]
theorem lU (h:cT f z) {hf:Nat->Option aH} {gr:Bool} {el:Option TypeId} {l:List α} {m:Nat} (hm:m=l.length) (hg:hf n=some ⟨ver,aX f l,gr,el⟩):view hf (k+2) (.rs n ver 0 m z)=some (.sl (l.map f)):=by
 subst hm;have h1:=cF h l;have h2:=dU h l;have h3:=cR h l;simp[view,hg,h1,h2,h3,eJ,dj h]
theorem oL (h:cT f z) {hf:Nat->Option aH} {gr:Bool} {el:Option TypeId} {l:List α} {m:Nat} (hm:m=l.length) (hg:hf n=some ⟨ver,aX f l,gr,el⟩):bC hf (k+2) (.rs n ver 0 m z)=[n]:=by
 subst hm;simp[bC,hg,cR h,GH]
theorem aQ {α:Type} {l:List α} (d:α) (h:i<l.length):l.take (i+1)=l.take i++[l.getD i d]:=by
 rw[List.take_succ,bZ h,ca,bZ h];rfl
theorem jh {α:Type} (l:List α) (p:α->Bool):(l.any fun x=> !p x)= !l.all p:=by
 induction l with
 |nil=>rfl
 |cons x l ih=>rw[List.any_cons,List.all_cons,ih];cases p x<;>simp
end Go.Dom
namespace Go.Proofs.Tryz
open Go Go.Dom Go.Num
variable {a b n x:Nat} {e o:Bytes}
def gE (m o:Bytes):Int:=if !(aa m&&aa o)then 3 else if o==[]then(if eA m []then 0 else 13)else if num m<=1\/num o<=1\/(num m-1)%num o≠0 then 13 else 0
def jF (m o x:Bytes):Bool:=if o==[]then dx m [] x else gW m o x
def vE (m o x:Bytes):Bool:=decide (gE m o=0)&&jF m o x
structure GP (m o:Bytes) (n:Nat):Prop where
 lt:n<num m
 RF:Nat.gcd n (num m)=1
 ord:o=[]\/n^num o%num m=1%num m
theorem mc {m o:Bytes} (h:gE m o=0):aa m=true/\aa o=true/\1<num m/\(o=[]->eA m []=true)/\(o≠[]->1<num o/\(num m-1)%num o=0):=by
 unfold gE at h
 split at h
 ·cases h
 ·rename_i h1;have h1:aa m=true/\aa o=true:=by simpa using h1
  split at h
  ·rename_i h2
   split at h
   ·rename_i h3;have h4:8<num m:=by simp only[eA,ba,bM]at h3;exact h3.2
    exact⟨h1.1,h1.2,oO,fun _=>h3,fun g=>aM (by simpa using h2) g⟩
   ·cases h
  ·rename_i h2
   split at h
   ·cases h
   ·rename_i h3;exact⟨h1.1,h1.2,oO,fun g=>aM g (by simpa using h2),fun _=>oO⟩
theorem xR {x i m:Nat} (hm:1<m) (h:x*i%m=1%m):Nat.gcd x m=1:=by
 have h1:Nat.gcd x m∣x*i%m:=by
  have d1:Nat.gcd x m∣x*i:=Nat.dvd_trans (Nat.gcd_dvd_left x m) (Nat.dvd_mul_right x i);exact(Nat.dvd_mod_iff (Nat.gcd_dvd_right x m)).2 d1
 rw[h,bw hm]at h1;exact Nat.dvd_one.1 h1
theorem cL {m o x:Bytes} (h:gE m o=0):jF m o x=true↔aa x=true/\GP m o (num x):=by
 obtain⟨vm,vo,m1,hr,hp⟩:=mc h;unfold jF
 by_cases ho:o=[]
 ·subst ho;have hb:=hr rfl;simp only[fW,az,dx,hb,ba,bM,dW,ey,true_and];constructor
  ·rintro⟨⟨⟨h1,h2⟩,h3⟩,h4⟩;exact⟨h1,h3,h4, .inl rfl⟩
  ·rintro⟨h1,h3,h4,-⟩;refine⟨⟨⟨h1,?_⟩,h3⟩,h4⟩;intro e;subst e;simp[num]at h4;omega
 ·have hb:(o==([]:Bytes))=false:=by simpa using ho
  obtain⟨o1,od⟩:=hp ho;simp only[hb,bO,ar,gW,vm,vo,ba,bM,dW,ey,true_and,cG,and_true];constructor
  ·rintro⟨⟨⟨h1,h2⟩,h3⟩,h4⟩;have:num x^num o=num x*num x^(num o-1):=by rw[<-wP];congr 1;omega
   rw[this]at h4;exact⟨h1,h3,xR m1 h4, .inr (by rw[this];exact h4)⟩
  ·rintro⟨h1,h3,h4,h5⟩;refine⟨⟨⟨h1,?_⟩,h3⟩,h5.resolve_left ho⟩;intro e;subst e;simp[num]at h4;omega
theorem D3 (a b:Nat):Nat.gcd (a%b) b=Nat.gcd a b:=by rw[<-nf,j4]
theorem GP.unit {m o:Bytes} (h:GP m o n):eg (num m) n:=mZ (by have:=h.lt;omega) h.RF
theorem GP.mul {m o:Bytes} (ha:GP m o a) (hb:GP m o b):GP m o (a*b%num m):=by
 have h0:0<num m:=by have:=ha.lt;omega
 refine⟨aP _ h0,?_,?_⟩
 ·rw[D3];exact Nat.Coprime.mul_left ha.RF hb.RF
 ·rcases ha.ord with h|h
  ·exact .inl h
  ·rcases hb.ord with g|g
   ·exact .inl g
   ·refine .inr ?_;rw[<-iR,qw,cC,h,g,<-cC,iv]
theorem GP.pow {m o:Bytes} (ha:GP m o a) (e:Nat):GP m o (a^e%num m):=by
 have h0:0<num m:=by have:=ha.lt;omega
 refine⟨aP _ h0,?_,?_⟩
 ·rw[D3];exact Nat.Coprime.pow_left e ha.RF
 ·rcases ha.ord with h|h
  ·exact .inl h
  ·refine .inr ?_;rw[<-iR,<-jA,bU,jA,iR,h,<-iR,qE]
theorem GP.inv {m o:Bytes} (ha:GP m o a) (m1:1<num m):GP m o (gH a (num m)):=by
 have h0:0<num m:=oO;obtain⟨g1,g2⟩:=ha.unit.inv;refine⟨g1,xR (i:=a) m1 (by rw[bU];exact g2),?_⟩
 rcases ha.ord with h|h
 ·exact .inl h
 ·refine .inr ?_;have e1:(a*gH a (num m))^num o%num m=1%num m:=by rw[iR,g2,<-iR,qE]
  rw[qw,cC,h,<-cC,iv]at e1;exact e1
theorem GP.dw {m o:Bytes} (ha:GP m o a) (m1:1<num m) (ng:Bool) (e:Nat):GP m o (Dom.dw (num m) a ng e):=by
 unfold Dom.dw;cases ng
 ·exact ha.pow e
 ·exact(ha.inv m1).pow e
theorem GP.has {m o:Bytes} (h:GP m o n) (hE:gE m o=0) (lm:m.length<=8):jF m o (bR n)=true:=by
 have:=dO lm;exact(cL hE).2 ⟨vN (by have:=h.lt;omega),by rw[aY];exact h⟩
theorem nM {m:Bytes} (lm:m.length<=8) (lo:o.length<=8):aE 84 [G m o] (E (gE m o)):=by
 by_cases ho:o=[]
 ·subst ho;have:=rG m;have e:gE m []=AL m:=by
   unfold gE AL;have hv0:aa []=true:=rfl
   cases aa m<;>simp[hv0]
  rw[e];exact this
 have hb:(o==([]:Bytes))=false:=by simpa using ho
 have v1:=aG m;have v2:=aG o;unfold gE
 by_cases hv:aa m=true/\aa o=true
 case neg=>
  have:(aa m&&aa o)=false:=by rw[dy];intro g;simp at g;exact hv g
  rw[this];generalize aa m=b1 at*;generalize aa o=b2 at*;refine eW call84 func84 ?_;exact Og @v1 @v2
 obtain⟨vm,vo⟩:=hv;have nm:=dO lm;have no:=dO lo;have hop:num o≠0:=fun e=>ho ((sL vo).1 e)
 rw[vm]at v1;rw[vo]at v2;rw[vm,vo,hb];have hs:=SP (a:=num m) (b:=1) nm oC;have hcm:=lV o [2];rw[vo,show aa [2]=true from rfl,show num [2]=2 from rfl]at hcm
 simp only[cX,az]at hcm;have hcl: ∀ _:True,decide (aZ (num o) 2<0)=decide (num o<2):=fun _=>by
  rw[dk];simp[fy]
 have e1:N (num m)= .s m:=congrArg PV.s (fm vm);have e2:N (num o)= .s o:=congrArg PV.s (fm vo);rw[e1]at hs;generalize aZ (num o) 2=cm at*
 by_cases m0:num m=0
 ·rw[af oO,af oO]at hs;have:(if num m<=1\/num o<=1\/(num m-1)%num o≠0 then(13:Int)else 0)=13:=ah oO
  simp only[cX,cl,bO,ar,this];refine eW call84 func84 ?_;simp only[go_sem,seval,dJ];exact VZ (aN @hb @dJ) @v1 @v2 @xo @hs
 rw[ah oO,ah oO]at hs
 by_cases m1:num m=1
 ·have:(if num m<=1\/num o<=1\/(num m-1)%num o≠0 then(13:Int)else 0)=13:=ah oO
  simp only[cX,cl,bO,ar,this];rw[m1]at hs;refine eW call84 func84 ?_;simp only[go_sem,seval,dJ];exact VZ (aN @hb (aN @dJ @zP)) @v1 @v2 @xo @hs
 have en:=pK (n:=num m-1) oO;have hd:=jf (a:=num m-1) (b:=num o) oO no oO;rw[e2]at hd;have hz: ∀ _:True,(bR ((num m-1)%num o)==([]:Bytes))=decide ((num m-1)%num o=0):=fun _=>by
  rw[dk];simp[gA]
 by_cases o1:num o<2
 ·have:(if num m<=1\/num o<=1\/(num m-1)%num o≠0 then(13:Int)else 0)=13:=ah oO
  simp only[cX,cl,bO,ar,this];rw[aV o1]at hcl;refine eW call84 func84 ?_;simp only[go_sem,seval,dJ];exact Of (aN @hb (aN @dJ (aN @en (hcl oT)))) @v1 @v2 @xo @V3 @hs @hcm oT
 rw[bL o1]at hcl
 by_cases hd0:(num m-1)%num o=0
 ·have:(if num m<=1\/num o<=1\/(num m-1)%num o≠0 then(13:Int)else 0)=0:=af oO
  simp only[cX,cl,bO,ar,this];rw[hd0]at hd;refine eW call84 func84 ?_;simp only[go_sem,seval,dJ];exact Of (aN @hb (aN @dJ (aN @en (aN (hcl oT) @zP)))) @v1 @v2 @xo @V3 @hs @hcm @hd
 ·have:(if num m<=1\/num o<=1\/(num m-1)%num o≠0 then(13:Int)else 0)=13:=ah oO
  simp only[cX,cl,bO,ar,this];have en2:=pK hd0;refine eW call84 func84 ?_;simp only[go_sem,seval,dJ];exact Of (aN @hb (aN @dJ (aN @en (aN (hcl oT) @en2)))) @v1 @v2 @xo @V3 @hs @hcm @hd
theorem sG {m:Bytes} (lm:m.length<=8) (o x:Bytes):aE 175 [G m o, .s x] (.b (jF m o x)):=by
 by_cases ho:o=[]
 ·subst ho;exact Ex lm x
 ·have hb:(o==([]:Bytes))=false:=by simpa using ho
  have h:=Et lm o x;unfold jF;rw[hb];simp only[bO,ar];refine eW call175 func175 ?_;exact lF @hb @h
theorem L5 {m:Bytes} (lm:m.length<=8) (lo:o.length<=8) (x:Bytes):aE 85 [G m o, .s x] (.b (vE m o x)):=by
 have h1:=nM lm lo;have h2:=sG lm o x;unfold vE;generalize gE m o=z at*;generalize jF m o x=b at*;refine eW call85 func85 ?_;exact Og @h1 @h2
theorem HF {m:Bytes} (lm:m.length<=8) (lo:o.length<=8) (hE:gE m o=0) (ha:GP m o a) (hb:GP m o b):aE 499 [G m o,N a,N b] (.tup [N (a*b%num m),E 0]):=by
 obtain⟨vm,vo,m1,-,-⟩:=mc hE;have hn:=dO lm;have la:=ha.lt;have lb:=hb.lt;have hm:=Mr (a:=a) (b:=b) (m:=num m) oO oO hn oO;have e1:N (num m)= .s m:=congrArg PV.s (fm vm);rw[e1]at hm;have c1:=aG (bR a);have c2:=aG (bR b);rw[vN (show a<(2^64) by omega)]at c1
 rw[vN (show b<(2^64) by omega)]at c2
 have c3:=nM lm lo;rw[hE]at c3;have c4:=sG lm o (bR a);have c5:=sG lm o (bR b);rw[ha.has hE lm]at c4;rw[hb.has hE lm]at c5;have hch:aE 93 [G m o, .sl [N a,N b], .sl [], .b true] (E 0):=by
  refine eW call93 func93 ?_;exact zu5 @c1 @c2 @c3 @c4 @c5
 refine eW call499 func499 ?_;exact z2 @hch @hm
theorem L6 {m:Bytes} (lm:m.length<=8) (lo:o.length<=8) {ng:Bool} (hE:gE m o=0) (hx:GP m o x) (he:aa e=true) (hz:(ng&&e==[])=false):aE 39 [G m o, .sl [N x], .sl [.agg [.b ng, .s e]]] (.tup [N (dw (num m) x ng (num e)),E 0]):=by
 obtain⟨vm,vo,m1,-,-⟩:=mc hE;have hn:=dO lm;have lx:=hx.lt;have c1:=aG (bR x);rw[vN (show x<(2^64) by omega)]at c1
 have c2:=gO ng e;rw[he,hz]at c2;have c3:=nM lm lo;rw[hE]at c3;have c4:=sG lm o (bR x);rw[hx.has hE lm]at c4;have hch:aE 93 [G m o, .sl [N x], .sl [.agg [.b ng, .s e]], .b true] (E 0):=by
  refine eW call93 func93 ?_;exact Z3 @c1 @c2 @c3 @c4
 have hbt:=vQ he;have hbi:=fun i hi=>xc he i hi
 have hinv:=qZ (a:=x) (m:=num m) oO hn oO hx.RF;have hil:=hx.unit.inv.1;clear c1 c2 c3 c4;unfold dw;obtain⟨n,hnn⟩: ∃n,n=num e:=⟨_,rfl⟩;obtain⟨M,hM⟩: ∃M,M=num m:=⟨_,rfl⟩;have eG:G m o= .agg [N M, .s o]:=by rw[hM,show N (num m)= .s m from congrArg PV.s (fm vm)]
 rw[eG]at hch⊢;rw[<-hM]at lx hn m1 hinv hil;rw[<-hnn]at hbt hbi;rw[<-hnn,<-hM];clear hx;have hbl:cZ n<1000000:=by
  have h1:n<2^1024:=by
   rw[hnn];refine b9 (ct e) ?_;have le:e.length<=128:=by simp[aa]at he;exact he.1
   exact fQ (cM oC le) (by decide+kernel)
  unfold cZ;split
  ·decide
  ·rename_i h;have:=(wN h).2 h1;omega
 have hmx: ∀ _:True,(if(cZ n:Int)>0 then(cZ n:Int)else 0)=(cZ n:Int):=fun _=>by split<;>omega
 have hM1:1%M=1:=bw oO;have hw1: ∀ _:True,IntKind.i64.wrap ((cZ n:Int)-1)=(cZ n:Int)-1:=fun _=>IntWalk.i64_in _ oO
 cases ng
 ·simp only[bO,ar];obtain⟨xm,hxm⟩: ∃xm,xm=x:=⟨_,rfl⟩;rw[<-hxm]at hch lx⊢;refine eW call39 func39 ?_;refine tN (aN @JK (aN @Aq (aN @pW (aN @Ki (aN (hmx oT) (aN (hw1 oT) @dJ)))))) @hch @hbt @xo oT ?_;refine aj ?_;refine tN (aN @JK (aN @Aq (aN @pW (aN @Ki (aN (hmx oT) (aN (hw1 oT) @dJ)))))) @hch @hbt @xo oT ?_;refine aj ?_;refine tN (aN @JK (aN @Aq (aN @pW (aN @Ki (aN (hmx oT) (aN (hw1 oT) @dJ)))))) @hch @hbt @xo oT ?_;refine ak (α:=Nat) (fun k=>k) (fun k=>⟨[(2, .v (.sl [.agg [.b false, .s e]])),(9, .rs 1017 0 0 1 1),(15, .p 1052 0 0),(16, .fn (.func 96) [] [.p 1052 0 0, .p 1000 0 0]),(17, .v (.i .i64 ((k:Int)-1)))],[(1052,⟨0,[.v (N (xm^(n/2^k)%M))],false,some 22⟩),(1017,⟨0,[.v (N xm)],false,none⟩),(1000,⟨0,[.v (N M), .v (.s o)],false,none⟩)],_⟩) (fun k=>k<=cZ n) (cZ n) (fun _=>aD _) (aD _) ?_ ?_
  ·(refine AS.Le.of (by first|decide|omega) ?_ ?_<;>simp[dA,dz,aS,aB,AV.bd,AV.bd.bdL,u8,aq,au,aA])
   rw[RC,Nat.pow_zero,hM1]
  ·intro k hk R hR
   cases k with
   |zero=>
    refine vP ?_;rw[iq]
   |succ k=>
    obtain⟨z,hz⟩: ∃z,z=xm^(n/2^(k+1))%M:=⟨_,rfl⟩;have hzm:z<M:=by rw[hz];exact aP _ oO
    have e1: ∀ _:True,((k+1:Nat):Int)-1=(k:Int):=fun _=>oO
    have hge: ∀ _:True,decide ((k:Int)>=0)=true:=fun _=>by simp
    have hbit:=hbi k oO;have hdec:n.testBit k=decide (n/2^k%2=1):=kG;rw[hdec]at hbit;have hwk: ∀ _:True,IntKind.i64.wrap ((k:Int)-1)=(k:Int)-1:=fun _=>IntWalk.i64_in _ oO
    have hdd:n/2^(k+1)=n/2^k/2:=by rw[Nat.pow_succ,eL]
    have hzz:z*z%M<M:=aP _ oO;rw[<-hz];have hx1:=fun nm=>lT 1052 1000 nm oC o (some 22) none (a:=z) (b:=z) (m:=M) oO oO oO oO
    have hx2:=fun nm=>lT 1052 1000 nm oC o (some 22) none (a:=z*z%M) (b:=xm) (m:=M) oO oO oO oO
    repeat' first|simp only[go_sem,seval,e1 oT,hge oT,gg,gi,pW]|(refine bE (hx1 _) (by simp[aB]) ?_)|refine oE ?_|apply xX<;>intro hc
    refine aj ?_;repeat' first|simp only[go_sem,seval,hge oT,hwk oT,gg,gi,pW]|refine cP hbit ?_|(refine bE (hx2 _) (by simp[aB]) ?_)|(refine aj ?_)|refine oE ?_|apply xX<;>intro hc
    ·have hb2:n/2^k=2*(n/2^(k+1))+1:=oO;refine hR k oO oO _ ?_;have ez:z*z%M*xm%M=xm^(n/2^k)%M:=by
      have e3:z*z%M=xm^(n/2^(k+1))*xm^(n/2^(k+1))%M:=by rw[hz,<-cC]
      rw[hb2,Nat.pow_succ,qx,cY,e3,jy]
     rw[<-ez];exact lE
    ·have hb2:n/2^k=2*(n/2^(k+1)):=oO;refine hR k oO oO _ ?_;have ez:z*z%M=xm^(n/2^k)%M:=by
      rw[hb2,qx,cY,hz,<-cC]
     rw[<-ez];exact lE
 ·simp only[az];obtain⟨xm,hxm⟩: ∃xm,xm=gH x M:=⟨_,rfl⟩;rw[<-hxm]at hinv hil⊢;refine eW call39 func39 ?_;refine tN (aN @JK (aN @Aq (aN @pW (aN @Ki (aN (hmx oT) (aN (hw1 oT) @dJ)))))) @hch @hbt @xo @hinv ?_;refine aj ?_;refine tN (aN @JK (aN @Aq (aN @pW (aN @Ki (aN (hmx oT) (aN (hw1 oT) @dJ)))))) @hch @hbt @xo @hinv ?_;refine aj ?_;refine tN (aN @JK (aN @Aq (aN @pW (aN @Ki (aN (hmx oT) (aN (hw1 oT) @dJ)))))) @hch @hbt @xo @hinv ?_;refine ak (α:=Nat) (fun k=>k) (fun k=>⟨[(2, .v (.sl [.agg [.b true, .s e]])),(9, .rs 1017 0 0 1 1),(15, .p 1068 0 0),(16, .fn (.func 96) [] [.p 1068 0 0, .p 1000 0 0]),(17, .v (.i .i64 ((k:Int)-1)))],[(1068,⟨0,[.v (N (xm^(n/2^k)%M))],false,some 22⟩),(1017,⟨0,[.v (N xm)],false,none⟩),(1000,⟨0,[.v (N M), .v (.s o)],false,none⟩)],_⟩) (fun k=>k<=cZ n) (cZ n) (fun _=>aD _) (aD _) ?_ ?_
  ·(refine AS.Le.of (by first|decide|omega) ?_ ?_<;>simp[dA,dz,aS,aB,AV.bd,AV.bd.bdL,u8,aq,au,aA])
   rw[RC,Nat.pow_zero,hM1]
  ·intro k hk R hR
   cases k with
   |zero=>
    refine vP ?_;rw[iq]
   |succ k=>
    obtain⟨z,hz⟩: ∃z,z=xm^(n/2^(k+1))%M:=⟨_,rfl⟩;have hzm:z<M:=by rw[hz];exact aP _ oO
    have e1: ∀ _:True,((k+1:Nat):Int)-1=(k:Int):=fun _=>oO
    have hge: ∀ _:True,decide ((k:Int)>=0)=true:=fun _=>by simp
    have hbit:=hbi k oO;have hdec:n.testBit k=decide (n/2^k%2=1):=kG;rw[hdec]at hbit;have hwk: ∀ _:True,IntKind.i64.wrap ((k:Int)-1)=(k:Int)-1:=fun _=>IntWalk.i64_in _ oO
    have hdd:n/2^(k+1)=n/2^k/2:=by rw[Nat.pow_succ,eL]
    have hzz:z*z%M<M:=aP _ oO;rw[<-hz];have hx1:=fun nm=>lT 1068 1000 nm oC o (some 22) none (a:=z) (b:=z) (m:=M) oO oO oO oO
    have hx2:=fun nm=>lT 1068 1000 nm oC o (some 22) none (a:=z*z%M) (b:=xm) (m:=M) oO oO oO oO
    repeat' first|simp only[go_sem,seval,e1 oT,hge oT,gg,gi,pW]|(refine bE (hx1 _) (by simp[aB]) ?_)|refine oE ?_|apply xX<;>intro hc
    refine aj ?_;repeat' first|simp only[go_sem,seval,hge oT,hwk oT,gg,gi,pW]|refine cP hbit ?_|(refine bE (hx2 _) (by simp[aB]) ?_)|(refine aj ?_)|refine oE ?_|apply xX<;>intro hc
    ·have hb2:n/2^k=2*(n/2^(k+1))+1:=oO;refine hR k oO oO _ ?_;have ez:z*z%M*xm%M=xm^(n/2^k)%M:=by
      have e3:z*z%M=xm^(n/2^(k+1))*xm^(n/2^(k+1))%M:=by rw[hz,<-cC]
      rw[hb2,Nat.pow_succ,qx,cY,e3,jy]
     rw[<-ez];exact lE
    ·have hb2:n/2^k=2*(n/2^(k+1)):=oO;refine hR k oO oO _ ?_;have ez:z*z%M=xm^(n/2^k)%M:=by
      rw[hb2,qx,cY,hz,<-cC]
     rw[<-ez];exact lE
theorem qh {m:Bytes} (lm:m.length<=8) (lo:o.length<=8) {ng:Bool} (hE:gE m o=0) (hx:GP m o x) (he:aa e=true) (hz:(ng&&e==[])=false):aE 498 [G m o,N x, .agg [.b ng, .s e]] (.tup [N (dw (num m) x ng (num e)),E 0]):=by
 have hp:=L6 lm lo hE hx he hz;refine eW call498 func498 ?_;exact z1 @hp
end Go.Proofs.Tryz
namespace Go.Proofs.Tryz
open Go Go.Dom Go.Num
structure eD where
 (base:Bytes) (var:Int) (neg:Bool) (abs:Bytes)
def eD.pv:eD->PV
 |⟨b,v,n,a⟩=> .agg [.s b, .i .i64 v, .b n, .s a]
structure dr where
 (kR:Int) (tgt:Bytes) (terms:List eD)
def dr.pv:dr->PV
 |⟨g,t,l⟩=> .agg [.i .i64 g, .s t, .sl (l.map eD.pv)]
def dS:Bytes×Bytes->PV
 |(m,o)=> .agg [.s m, .s o]
def cO (b:Bytes):PV:= .agg [.s b]
def cU:Bool×Bytes->PV
 |(n,a)=> .agg [.b n, .s a]
structure cK where
 (groups:List (Bytes×Bytes)) (vars:List Bytes) (eqs:List dr)
def cK.pv (s:cK):PV:= .agg [.sl (s.groups.map dS), .sl (s.vars.map cO), .sl (s.eqs.map dr.pv)]
def je (z:Int):Bool×Bytes:=(zs z,zb z)
theorem PY (z:Int):cU (je z)=Z z:=rfl
def Zp (z:Int):PV:=cU (je z)
def cr (x:Bool×Bytes):Bool:=aa x.2&& !(x.1&&x.2==[])
def fj:eD:=⟨[],0,false,[]⟩
def gN:dr:=⟨0,[],[]⟩
def eU:Bytes×Bytes:=([],[])
def fh:Bool×Bytes:=(false,[])
structure Ww (s:cK):Prop where
 g: ∀p∈s.groups,gE p.1 p.2=0/\p.1.length<=8/\p.2.length<=8
 v: ∀b∈s.vars,aa b=true/\b≠[]/\b.length<=16
 q: ∀q∈s.eqs,0<=q.kR/\q.kR<s.groups.length/\jF (s.groups.getD q.kR.toNat eU).1 (s.groups.getD q.kR.toNat eU).2 q.tgt=true/\q.terms.length<=64/\
  ∀t∈q.terms,0<=t.var/\t.var<s.vars.length/\jF (s.groups.getD q.kR.toNat eU).1 (s.groups.getD q.kR.toNat eU).2 t.base=true/\cr (t.neg,t.abs)=true
 ng:s.groups.length<=8
 nv:s.vars.length<=64
 ne:s.eqs.length<=64
structure Rx (s:cK):Prop where
 g: ∀p∈s.groups,gE p.1 p.2=0/\p.1.length<=8/\p.2.length<=8
 q: ∀q∈s.eqs,0<=q.kR/\q.kR<s.groups.length/\jF (s.groups.getD q.kR.toNat eU).1 (s.groups.getD q.kR.toNat eU).2 q.tgt=true/\q.terms.length<=64/\
  ∀t∈q.terms,0<=t.var/\t.var<s.vars.length/\jF (s.groups.getD q.kR.toNat eU).1 (s.groups.getD q.kR.toNat eU).2 t.base=true/\cr (t.neg,t.abs)=true
 ng:s.groups.length<=8
 nv:s.vars.length<=64
 ne:s.eqs.length<=64
theorem Ww.m {s:cK} (h:Ww s):Rx s:=⟨h.g,h.q,h.ng,h.nv,h.ne⟩
theorem getD_map {α:Type} (f:α->PV) (l:List α) (d:α) {i:Nat} (h:i<l.length):(l.map f).getD i .fn0=f (l.getD i d):=by
 simp[ca,h]
theorem bc {α:Type} {l:List α} {i:Nat} (d:α) (h:i<l.length):l.drop i=l.getD i d::l.drop (i+1):=by
 rw[jt h,ca,bZ h];rfl
theorem aC {α:Type} {l:List α} {i:Nat} (d:α) (h:i<l.length):l.getD i d∈l:=by
 rw[ca,bZ h];exact ka h
theorem gG {m o x:Bytes} (hE:gE m o=0) (h:jF m o x=true):aa x=true:=((cL hE).1 h).1
theorem zC (l:List (Bool×Bytes)) (f:FuncId) (p:(Bool×Bytes)->Bool) (hl:l.length<4611686018427387904) (h: ∀x,aE f [cU x] (.b (p x))):aE 313 [.sl (l.map cU), .fn (.func f)] (E (ec p 0 l)):=by
 have hlm:(l.map cU).length=l.length:=aL ..;refine eW call313 func313 ?_;refine dY @hlm ?_;refine ak (α:=Nat) (fun i=>l.length-i) (fun i=>⟨[(0, .v (.sl (l.map cU))),(1, .v (.fn (.func f))),(7, .v (.i .i64 l.length)),(8, .v (.i .i64 (i:Nat)))],[],_⟩) (fun i=>i<=l.length/\ec p i (l.drop i)=ec p 0 l) 0 (fun _=>aD _) ⟨aR _,rfl⟩ ?_ ?_
 ·exact lE
 ·rintro i ⟨hi,hx⟩ R hR;rw[<-hx]
  by_cases hlt:i<l.length
  ·have e1:=getD_map cU l fh hlt;have hf:=h (l.getD i fh);have hgo:=hR (i+1);rw[<-hx,bc fh hlt]at hgo;rw[bc fh hlt];simp only[ec]at hgo⊢;clear hx hR h;obtain⟨b,hb⟩: ∃b,b=p (l.getD i fh):=⟨_,rfl⟩;rw[<-hb]at hf hgo⊢;clear hb;obtain⟨x,hxx⟩: ∃x,x=l.getD i fh:=⟨_,rfl⟩;rw[<-hxx]at e1 hf;clear hxx;cases x;simp only[cU]at e1 hf;cases b
   ·have hgo:=hgo ⟨oO,rfl⟩ oO;exact kp (aN @hlm @e1) @hgo @hf
   ·exact lF (aN @hlm @e1) @hf
  ·obtain rfl:i=l.length:=oO;rw[dn];repeat' first|simp only[go_sem,seval,hlm]|refine oE ?_|apply xX<;>intro hc
   all_goals simp[ec]
theorem fX (l:List (Bool×Bytes)) (f:FuncId) (p:(Bool×Bytes)->Bool) (hl:l.length<4611686018427387904) (h: ∀x,aE f [cU x] (.b (p x))):aE 188 [.sl (l.map cU), .fn (.func f)] (.b (l.any p)):=by
 have hi:=zC l f p hl h;have e:decide (ec p 0 l>=0)=l.any p:=by
  rw[dk,decide_eq_true_iff];exact iH
 refine eW call188 func188 ?_;exact lF @e @hi
theorem zF (l:List dr) (f:FuncId) (p:dr->Bool) (hl:l.length<4611686018427387904) (h: ∀x,aE f [dr.pv x] (.b (p x))):aE 515 [.sl (l.map dr.pv), .fn (.func f)] (E (ec p 0 l)):=by
 have hlm:(l.map dr.pv).length=l.length:=aL ..;refine eW call515 func515 ?_;refine dY @hlm ?_;refine ak (α:=Nat) (fun i=>l.length-i) (fun i=>⟨[(0, .v (.sl (l.map dr.pv))),(1, .v (.fn (.func f))),(7, .v (.i .i64 l.length)),(8, .v (.i .i64 (i:Nat)))],[],_⟩) (fun i=>i<=l.length/\ec p i (l.drop i)=ec p 0 l) 0 (fun _=>aD _) ⟨aR _,rfl⟩ ?_ ?_
 ·exact lE
 ·rintro i ⟨hi,hx⟩ R hR;rw[<-hx]
  by_cases hlt:i<l.length
  ·have e1:=getD_map dr.pv l gN hlt;have hf:=h (l.getD i gN);have hgo:=hR (i+1);rw[<-hx,bc gN hlt]at hgo;rw[bc gN hlt];simp only[ec]at hgo⊢;clear hx hR h;obtain⟨b,hb⟩: ∃b,b=p (l.getD i gN):=⟨_,rfl⟩;rw[<-hb]at hf hgo⊢;clear hb;obtain⟨x,hxx⟩: ∃x,x=l.getD i gN:=⟨_,rfl⟩;rw[<-hxx]at e1 hf;clear hxx;cases x;simp only[dr.pv]at e1 hf;cases b
   ·have hgo:=hgo ⟨oO,rfl⟩ oO;exact kp (aN @hlm @e1) @hgo @hf
   ·exact lF (aN @hlm @e1) @hf
  ·obtain rfl:i=l.length:=oO;rw[dn];repeat' first|simp only[go_sem,seval,hlm]|refine oE ?_|apply xX<;>intro hc
   all_goals simp[ec]
theorem tR (l:List dr) (f:FuncId) (p:dr->Bool) (hl:l.length<4611686018427387904) (h: ∀x,aE f [dr.pv x] (.b (p x))):aE 480 [.sl (l.map dr.pv), .fn (.func f)] (.b (l.any p)):=by
 have hi:=zF l f p hl h;have e:decide (ec p 0 l>=0)=l.any p:=by
  rw[dk,decide_eq_true_iff];exact iH
 refine eW call480 func480 ?_;exact lF @e @hi
theorem zG (l:List eD) (f:FuncId) (c:List PV) (p:eD->Bool) (hl:l.length<4611686018427387904) (h: ∀x,aE f (x.pv::c) (.b (p x))):aE 516 [.sl (l.map eD.pv), .fc f [] c] (E (ec p 0 l)):=by
 have hlm:(l.map eD.pv).length=l.length:=aL ..;refine eW call516 func516 ?_;refine dY @hlm ?_;refine ak (α:=Nat) (fun i=>l.length-i) (fun i=>⟨[(0, .v (.sl (l.map eD.pv))),(1, .v (.fc f [] c)),(7, .v (.i .i64 l.length)),(8, .v (.i .i64 (i:Nat)))],[],_⟩) (fun i=>i<=l.length/\ec p i (l.drop i)=ec p 0 l) 0 (fun _=>aD _) ⟨aR _,rfl⟩ ?_ ?_
 ·exact lE
 ·rintro i ⟨hi,hx⟩ R hR;rw[<-hx]
  by_cases hlt:i<l.length
  ·have e1:=getD_map eD.pv l fj hlt;have hf:=h (l.getD i fj);have hgo:=hR (i+1);rw[<-hx,bc fj hlt]at hgo;rw[bc fj hlt];simp only[ec]at hgo⊢;clear hx hR h;obtain⟨b,hb⟩: ∃b,b=p (l.getD i fj):=⟨_,rfl⟩;rw[<-hb]at hf hgo⊢;clear hb;obtain⟨x,hxx⟩: ∃x,x=l.getD i fj:=⟨_,rfl⟩;rw[<-hxx]at e1 hf;clear hxx;cases x;simp only[eD.pv]at e1 hf;cases b
   ·have hgo:=hgo ⟨oO,rfl⟩ oO;repeat' first|simp only[go_sem,seval,hlm,e1]|(refine gp hf (lf _ _) ?_)|refine oE ?_|apply xX<;>intro hc
    refine hgo _ ?_;exact lE
   ·repeat' first|simp only[go_sem,seval,hlm,e1]|(refine gp hf (lf _ _) ?_)|refine oE ?_|apply xX<;>intro hc
    all_goals rfl
  ·obtain rfl:i=l.length:=oO;rw[dn];repeat' first|simp only[go_sem,seval,hlm]|refine oE ?_|apply xX<;>intro hc
   all_goals simp[ec]
theorem tS (l:List eD) (f:FuncId) (c:List PV) (p:eD->Bool) (hl:l.length<4611686018427387904) (h: ∀x,aE f (x.pv::c) (.b (p x))):aE 482 [.sl (l.map eD.pv), .fc f [] c] (.b (l.any p)):=by
 have hi:=zG l f c p hl h;have e:decide (ec p 0 l>=0)=l.any p:=by
  rw[dk,decide_eq_true_iff];exact iH
 refine eW call482 func482 ?_;exact lF @e @hi
theorem zH (l:List Bytes) (f:FuncId) (p:Bytes->Bool) (hl:l.length<4611686018427387904) (h: ∀x,aE f [cO x] (.b (p x))):aE 487 [.sl (l.map cO), .fn (.func f)] (E (ec p 0 l)):=by
 have hlm:(l.map cO).length=l.length:=aL ..;refine eW call487 func487 ?_;refine dY @hlm ?_;refine ak (α:=Nat) (fun i=>l.length-i) (fun i=>⟨[(0, .v (.sl (l.map cO))),(1, .v (.fn (.func f))),(7, .v (.i .i64 l.length)),(8, .v (.i .i64 (i:Nat)))],[],_⟩) (fun i=>i<=l.length/\ec p i (l.drop i)=ec p 0 l) 0 (fun _=>aD _) ⟨aR _,rfl⟩ ?_ ?_
 ·exact lE
 ·rintro i ⟨hi,hx⟩ R hR;rw[<-hx]
  by_cases hlt:i<l.length
  ·have e1:=getD_map cO l [] hlt;have hf:=h (l.getD i []);have hgo:=hR (i+1);rw[<-hx,bc [] hlt]at hgo;rw[bc [] hlt];simp only[ec]at hgo⊢;clear hx hR h;generalize p (l.getD i [])=b at*;generalize l.getD i []=x at*;simp only[cO]at e1 hf;cases b
   ·have hgo:=hgo ⟨oO,rfl⟩ oO;exact kp (aN @hlm @e1) @hgo @hf
   ·exact lF (aN @hlm @e1) @hf
  ·obtain rfl:i=l.length:=oO;rw[dn];repeat' first|simp only[go_sem,seval,hlm]|refine oE ?_|apply xX<;>intro hc
   all_goals simp[ec]
theorem tT (l:List Bytes) (f:FuncId) (p:Bytes->Bool) (hl:l.length<4611686018427387904) (h: ∀x,aE f [cO x] (.b (p x))):aE 421 [.sl (l.map cO), .fn (.func f)] (.b (l.any p)):=by
 have hi:=zH l f p hl h;have e:decide (ec p 0 l>=0)=l.any p:=by
  rw[dk,decide_eq_true_iff];exact iH
 refine eW call421 func421 ?_;exact lF @e @hi
end Go.Proofs.Tryz
namespace Go.Proofs.Tryz
open Go Go.Dom Go.Num
variable {b c sl:Bytes}
theorem P9 (q:dr):aE 481 [q.pv] (.b (decide (64<q.terms.length))):=by
 obtain⟨g,t,l⟩:=q;have l4:(l.map eD.pv).length=l.length:=aL ..;have hd:decide ((l.length:Int)>64)=decide (64<l.length):=by rw[fz];omega
 unfold dr.pv;refine eW call481 func481 ?_;exact gU (aN @l4 @hd)
theorem P1 {m:Bytes} (lm:m.length<=8) {o:Bytes} (lo:o.length<=8) (t:eD):aE 483 [t.pv, .pt (dS (m,o)) 0] (.b (!vE m o t.base)):=by
 obtain⟨b,v,n,a⟩:=t;have h:=L5 lm lo b;simp only[eD.pv,dS];generalize vE m o b=z at*;refine eW call483 func483 ?_;exact z1 @h
theorem Up (b:Bytes):aE 484 [cO b] (.b (b==[])):=by
 unfold cO;refine eW call484 func484 ?_;exact z0
def bK:List (Bytes×Bytes)->Bytes
 |[]=>[]
 |g::r=>if g.2=[]then bK r else g.2
theorem Bd (s:cK) (hl:s.groups.length<1000000):aE 319 [s.pv] (.s (bK s.groups)):=by
 obtain⟨gs,vs,es⟩:=s;simp only at hl;have l1:(gs.map dS).length=gs.length:=aL ..;unfold cK.pv;simp only;refine eW call319 func319 ?_;refine dY @l1 ?_;refine ak (α:=Nat) (fun i=>gs.length-i) (fun i=>⟨[(1, .p 1000 0 0),(6, .v (.sl (gs.map dS))),(7,E' gs.length),(8,E' i)],[(1000,⟨0,[.v (.sl (gs.map dS)), .v (.sl (vs.map cO)), .v (.sl (es.map dr.pv))],false,none⟩)],_⟩) (fun i=>i<=gs.length/\bK (gs.drop i)=bK gs) 0 (fun _=>aD _) ⟨aR _,rfl⟩ ?_ ?_
 ·exact lE
 ·rintro i ⟨hi,hf⟩ R hR;rw[<-hf]
  by_cases hlt:i<gs.length
  ·have e1:=getD_map dS gs eU hlt;have hgo:=hR (i+1);rw[<-hf]at hgo;rw[bc eU hlt]at hgo⊢;obtain⟨x,hx⟩: ∃x,x=gs.getD i eU:=⟨_,rfl⟩;rw[<-hx]at e1 hgo⊢;clear hx hf hR;obtain⟨m,o⟩:=x;simp only[bK]at hgo⊢;simp only[dS]at e1
   by_cases ho:o=[]
   ·subst ho;simp only[az]at hgo⊢;have hgo:=hgo ⟨oO,trivial⟩ oO;exact ko (aN @l1 (aN @e1 @nn)) @hgo
   ·have hb:(o==([]:Bytes))=false:=by simpa using ho
    rw[af ho];exact gU (aN @l1 (aN @e1 @hb))
  ·obtain rfl:i=gs.length:=oO;rw[dn];exact gU @l1
theorem NO (h:b≠[]):aE 320 [cO b] (E 1):=by
 have hb:(b==([]:Bytes))=false:=by simpa using h
 unfold cO;refine eW call320 func320 ?_;exact gU @hb
structure si (c sl:Bytes):Prop where
 vc:aa c=true
 vs:aa sl=true
 lc:c.length<=8
 ls:sl.length<=8
 c2:2<=num c
 s2:2<=num sl
def pI (c sl b:Bytes):Nat:=num sl*num c*num b
def Mp (c sl b:Bytes):Nat:=num sl*num c*num b-(num c-1)*(num b-1)
def Xg (c sl b:Bytes):PV:= .agg [N (pI c sl b),N (Mp c sl b)]
theorem Ei (h:b.length<=16):num b<dM:=b9 (ct b) (cM oC h)
theorem vZ (hr:si c sl) (hb:b.length<=16):pI c sl b<dC:=by
 have h1:num sl*num c<(2^64)*(2^64):=fE (dO hr.ls) (dO hr.lc);have h2:pI c sl b<(2^64)*(2^64)*dM:=fE h1 (Ei hb);exact b9 h2 (by unfold dC dM;decide+kernel)
theorem Mq (hr:si c sl):(num c-1)*(num b-1)<=pI c sl b:=by
 unfold pI;have h1:(num c-1)*(num b-1)<=num c*num b:=j9 oO oO;have h2:num c*num b<=num sl*(num c*num b):=CH _ (by have:=hr.s2;omega)
 rw[cA];omega
theorem sW {q:Bytes} (hr:si c sl) (vb:aa b=true) (hb:b≠[]) (lb:b.length<=16):aE 322 [.agg [.s c, .s sl, .s q], .s b] (.tup [Xg c sl b,E 0]):=by
 have h64:=m9;have hw:=Ff;have hML:=vZ hr lb;have hle:=Mq (b:=b) hr;have hnc:=dO hr.lc;have hns:=dO hr.ls;have hnb:=mR (bG vb) hb;have hb16:=Ei lb;have e1:=dZ hr.vc;have e2:=dZ hr.vs;have e3:=dZ vb;have m1:=Qc (a:=num sl) (b:=num c) (b9 (fE hns hnc) (by unfold dC;decide+kernel)) oO oO
 have m2:=Qc (a:=num sl*num c) (b:=num b) hML (b9 (fE hns hnc) (by unfold dC;decide+kernel)) (by have:=zY;omega)
 have s1:=zV (a:=num c) (b:=1) (by have:=hr.c2;omega) oO
 have s2:=zV (a:=num b) (b:=1) oO (by have:=zY;omega)
 have m3:=Qc (a:=num c-1) (b:=num b-1) oO oO (by have:=zY;omega)
 have s3:=zV (a:=num sl*num c*num b) (b:=(num c-1)*(num b-1)) hle hML;rw[e1,e2]at m1;rw[e3]at m2;rw[e1]at s1;rw[e3]at s2;have hP:Xg c sl b= .agg [N (num sl*num c*num b),N (num sl*num c*num b-(num c-1)*(num b-1))]:=rfl;rw[hP];clear hML hle hP;generalize num sl*num c*num b=A at*;generalize num sl*num c=B at*;generalize A-(num c-1)*(num b-1)=C at*;generalize (num c-1)*(num b-1)=D at*;refine eW call322 func322 ?_;exact VX @dJ @xo @m1 @m2 @s1 @s2 @m3 @s3
