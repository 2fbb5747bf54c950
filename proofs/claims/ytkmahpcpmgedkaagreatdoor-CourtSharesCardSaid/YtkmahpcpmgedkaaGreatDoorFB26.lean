/- Part of the proof. -/
import Derived.Test.YtkmahpcpmgedkaaGreatDoorFB24
set_option linter.all false
set_option maxHeartbeats 16000000
set_option maxRecDepth 100000
namespace Go.Dom
structure dY {α:Type} (f:α->PV) (z:Nat):Prop where
 len: ∀x,(f x).cells.length=z
 one: ∀x,∀y∈(f x).cells,y.one=true
 z1:z=1-> ∀x,(f x).cells=[f x]
 zn:z≠1-> ∀x,f x= .agg (f x).cells
def bj {α:Type} (f:α->PV) (l:List α):List AV:=(l.flatMap fun x=>(f x).cells).map AV.v
variable {α:Type} {f:α->PV} {z:Nat}
variable {el:Option TypeId} {i k n ver:Nat}
theorem dY.s:dY PV.s 1:=⟨fun _=>rfl,fun _ y hy=>by cases dt.1 hy;rfl,fun _ _=>rfl,fun h=>aW rfl h⟩
theorem J6 (h:dY f z) (l:List α):(l.flatMap fun x=>(f x).cells).length=l.length*z:=by
 induction l with
 |nil=>simp
 |cons x l ih=>rw[eD,bJ,ih,h.len,List.length_cons,iN];omega
theorem cz (h:dY f z) (l:List α):(bj f l).length=l.length*z:=by rw[bj,aB,J6 h]
theorem cM (h:dY f z) (l:List α):(bj f l).take (l.length*z)=bj f l:=cb (by rw[cz h];exact ay _)
theorem ff (h:dY f z) (l:List α):(bj f l).all AV.one=true:=by
 rw[bM];intro y hy;obtain⟨c,hc,rfl⟩:=bG.1 hy;obtain⟨x,-,hx⟩:=kj.1 hc;exact h.one x c hx
theorem fk (hf:Nat->Option aF) (k:Nat) (l:List α):bz (view hf (k+1)) (bj f l)=some (l.flatMap fun x=>(f x).cells):=eQ _ _ _
theorem Au (hf:Nat->Option aF) (k:Nat) (l:List α):(bj f l).flatMap (aV hf (k+1))=[]:=by
 unfold bj
 induction (l.flatMap fun x=>(f x).cells)with
 |nil=>rfl
 |cons x l ih=>simp_all[aV]
theorem dD (h:dY f z) (l:List α):chunk z l.length (l.flatMap fun x=>(f x).cells)=l.map f:=by
 induction l with
 |nil=>rfl
 |cons x l ih=>
  have hl:=h.len x;rw[List.length_cons,eD,chunk,List.drop_left' hl,ih,br];congr 1
  by_cases h1:z=1
  ·rw[ah h1,h.z1 h1 x];rfl
  ·rw[ae h1,List.take_left' hl];exact(h.zn h1 x).symm
theorem cR {l:List α} {c:AV} (h:c∈bj f l):c.bd n=true:=by
 obtain⟨x,-,rfl⟩:=bG.1 h;rfl
theorem cf (l:List α) (x:α):bj f (l++[x])=bj f l++(f x).cells.map AV.v:=by
 simp[bj,uR]
theorem wq (h: ∀x,(f x).cells=[f x]) (l:List α) (d:α) (hi:i<l.length):(bj f l).getD i .u= .v (f (l.getD i d)):=by
 have e:bj f l=l.map fun x=>AV.v (f x):=by
  unfold bj;clear hi
  induction l with
  |nil=>rfl
  |cons x l ih=>rw[eD,h x,jh,ih];rfl
 rw[e];simp[bu,hi]
theorem oQ (h:dY f z) {hf:Nat->Option aF} {gr:Bool} {l:List α} {m:Nat} (hm:m=l.length) (hg:hf n=some ⟨ver,bj f l,gr,el⟩):view hf (k+2) (.rs n ver 0 m z)=some (.sl (l.map f)):=by
 subst hm;have h1:=cz h l;have h2:=ff h l;have h3:=cM h l;simp[view,hg,h1,h2,h3,fk,dD h]
theorem m9 (h:dY f z) {hf:Nat->Option aF} {gr:Bool} {l:List α} {m:Nat} (hm:m=l.length) (hg:hf n=some ⟨ver,bj f l,gr,el⟩):aV hf (k+2) (.rs n ver 0 m z)=[n]:=by
 subst hm;simp[aV,hg,cM h,Au]
theorem leZ (hr:dY f z) {t t':List (Nat×AV)} {h h':List (Nat×aF)} {n n' k m ver len:Nat} {gr:Bool} {l:List α} (hk:aO t' k= .rs m ver 0 len z) (hg:az h' m=some ⟨ver,bj f l,gr,el⟩) (hl:len=l.length) (ht:dy t' n t) (hh:dx h' n h) (hm1:1000<=m:=by decide) (hmh:az h m=none:=by rfl) (hn:n<=n':=by first|decide|omega):(AS.mk ((k, .v (.sl (l.map f)))::t) h n).Le ⟨t',h',n'⟩:=
 AS.Le.LA [(k, .sl (l.map f))] [m] (fun x hx=>by obtain rfl:=dt.1 hx;exact⟨hm1,hmh⟩) (fun q hq=>by
  obtain rfl:=dt.1 hq;simp only[hk];exact⟨oQ hr hl hg,fun x hx=>by rw[m9 hr hl hg]at hx;exact hx⟩) hn ht hh
theorem aQ {α:Type} {l:List α} (d:α) (h:i<l.length):l.take (i+1)=l.take i++[l.getD i d]:=by
 rw[List.take_succ,bC h,bu,bC h];rfl
theorem nu {α:Type} (l:List α) (p:α->Bool):(l.any fun x=> !p x)= !l.all p:=by
 induction l with
 |nil=>rfl
 |cons x l ih=>rw[List.any_cons,List.all_cons,ih];cases p x<;>simp
end Go.Dom
namespace Go.Proofs.Tryz
open Go Go.Dom Go.Num
variable {a b n x:Nat} {e o:Bytes}
def gE (m o:Bytes):Int:=if !(aa m&&aa o)then 3 else if o==[]then(if iW m []then 0 else 13)else if num m<=1\/num o<=1\/(num m-1)%num o≠0 then 13 else 0
def iV (m o x:Bytes):Bool:=if o==[]then Ao m [] x else nK m o x
def jn (m o x:Bytes):Bool:=decide (gE m o=0)&&iV m o x
structure GP (m o:Bytes) (n:Nat):Prop where
 lt:n<num m
 Tb:Nat.gcd n (num m)=1
 ord:o=[]\/n^num o%num m=1%num m
theorem jm {m o:Bytes} (h:gE m o=0):aa m=true/\aa o=true/\1<num m/\(o=[]->iW m []=true)/\(o≠[]->1<num o/\(num m-1)%num o=0):=by
 unfold gE at h
 split at h
 ·cases h
 ·rename_i h1;have h1:aa m=true/\aa o=true:=by simpa using h1
  split at h
  ·rename_i h2
   split at h
   ·rename_i h3;have h4:8<num m:=by simp only[iW,aZ,cq]at h3;exact h3.2
    exact⟨h1.1,h1.2,oO,fun _=>h3,fun g=>aW (by simpa using h2) g⟩
   ·cases h
  ·rename_i h2
   split at h
   ·cases h
   ·rename_i h3;exact⟨h1.1,h1.2,oO,fun g=>aW g (by simpa using h2),fun _=>oO⟩
theorem zr {x i m:Nat} (hm:1<m) (h:x*i%m=1%m):Nat.gcd x m=1:=by
 have h1:Nat.gcd x m∣x*i%m:=by
  have d1:Nat.gcd x m∣x*i:=Nat.dvd_trans (DL x m) (Nat.dvd_mul_right x i);exact(Nat.dvd_mod_iff (Eh x m)).2 d1
 rw[h,bY hm]at h1;exact Nat.dvd_one.1 h1
theorem cH {m o x:Bytes} (h:gE m o=0):iV m o x=true↔aa x=true/\GP m o (num x):=by
 obtain⟨vm,vo,m1,hr,hp⟩:=jm h;unfold iV
 by_cases ho:o=[]
 ·subst ho;have hb:=hr rfl;simp only[dO,au,Ao,hb,aZ,cq,fJ,ey,rk];constructor
  ·rintro⟨⟨⟨h1,h2⟩,h3⟩,h4⟩;exact⟨h1,h3,h4, .inl rfl⟩
  ·rintro⟨h1,h3,h4,-⟩;refine⟨⟨⟨h1,?_⟩,h3⟩,h4⟩;intro e;subst e;simp[num]at h4;omega
 ·have hb:(o==([]:Bytes))=false:=by simpa using ho
  obtain⟨o1,od⟩:=hp ho;simp only[hb,bm,an,nK,vm,vo,aZ,cq,fJ,ey,rk,ca,and_true];constructor
  ·rintro⟨⟨⟨h1,h2⟩,h3⟩,h4⟩;have:num x^num o=num x*num x^(num o-1):=by rw[<-yd];congr 1;omega
   rw[this]at h4;exact⟨h1,h3,zr m1 h4, .inr (by rw[this];exact h4)⟩
  ·rintro⟨h1,h3,h4,h5⟩;refine⟨⟨⟨h1,?_⟩,h3⟩,h5.resolve_left ho⟩;intro e;subst e;simp[num]at h4;omega
theorem ES (a b:Nat):Nat.gcd (a%b) b=Nat.gcd a b:=by rw[<-mE,iK]
theorem GP.unit {m o:Bytes} (h:GP m o n):ga (num m) n:=gL (by have:=h.lt;omega) h.Tb
theorem GP.mul {m o:Bytes} (ha:GP m o a) (hb:GP m o b):GP m o (a*b%num m):=by
 have h0:0<num m:=by have:=ha.lt;omega
 refine⟨aL _ h0,?_,?_⟩
 ·rw[ES];exact Nat.Coprime.mul_left ha.Tb hb.Tb
 ·rcases ha.ord with h|h
  ·exact .inl h
  ·rcases hb.ord with g|g
   ·exact .inl g
   ·refine .inr ?_;rw[<-iL,yj,dp,h,g,<-dp,kW]
theorem GP.pow {m o:Bytes} (ha:GP m o a) (e:Nat):GP m o (a^e%num m):=by
 have h0:0<num m:=by have:=ha.lt;omega
 refine⟨aL _ h0,?_,?_⟩
 ·rw[ES];exact Nat.Coprime.pow_left e ha.Tb
 ·rcases ha.ord with h|h
  ·exact .inl h
  ·refine .inr ?_;rw[<-iL,<-ko,bO,ko,iL,h,<-iL,uM]
theorem GP.inv {m o:Bytes} (ha:GP m o a) (m1:1<num m):GP m o (fR a (num m)):=by
 have h0:0<num m:=oO;obtain⟨g1,g2⟩:=ha.unit.inv;refine⟨g1,zr (i:=a) m1 (by rw[bO];exact g2),?_⟩
 rcases ha.ord with h|h
 ·exact .inl h
 ·refine .inr ?_;have e1:(a*fR a (num m))^num o%num m=1%num m:=by rw[iL,g2,<-iL,uM]
  rw[yj,dp,h,<-dp,kW]at e1;exact e1
theorem GP.dh {m o:Bytes} (ha:GP m o a) (m1:1<num m) (ng:Bool) (e:Nat):GP m o (Dom.dh (num m) a ng e):=by
 unfold Dom.dh;cases ng
 ·exact ha.pow e
 ·exact(ha.inv m1).pow e
theorem GP.has {m o:Bytes} (h:GP m o n) (hE:gE m o=0) (lm:m.length<=8):iV m o (aX n)=true:=by
 have:=eP lm;exact(cH hE).2 ⟨vN (by have:=h.lt;omega),by rw[aP];exact h⟩
theorem kL {m:Bytes} (lm:m.length<=8) (lo:o.length<=8):aD 119 [G m o] (E (gE m o)):=by
 by_cases ho:o=[]
 ·subst ho;have:=Hd m;have e:gE m []=VZ m:=by
   unfold gE VZ;have hv0:aa []=true:=rfl
   cases aa m<;>simp[hv0]
  rw[e];exact this
 have hb:(o==([]:Bytes))=false:=by simpa using ho
 have v1:=aS m;have v2:=aS o;unfold gE
 by_cases hv:aa m=true/\aa o=true
 case neg=>
  have:(aa m&&aa o)=false:=by rw[fy];intro g;simp at g;exact hv g
  rw[this];generalize aa m=b1 at*;generalize aa o=b2 at*;refine eW call119 func119 ?_;exact Wu @v1 @v2
 obtain⟨vm,vo⟩:=hv;have nm:=eP lm;have no:=eP lo;have hop:num o≠0:=fun e=>ho ((tK vo).1 e)
 rw[vm]at v1;rw[vo]at v2;rw[vm,vo,hb];have hs:=ZB (a:=num m) (b:=1) nm oC;have hcm:=mN o [2];rw[vo,show aa [2]=true from rfl,show num [2]=2 from rfl]at hcm
 simp only[dE,au]at hcm;have hcl: ∀ _:True,decide (ba (num o) 2<0)=decide (num o<2):=fun _=>by
  rw[dK];simp[fP]
 have e1:N (num m)= .s m:=congrArg PV.s (gN vm);have e2:N (num o)= .s o:=congrArg PV.s (gN vo);rw[e1]at hs;generalize ba (num o) 2=cm at*
 by_cases m0:num m=0
 ·rw[ae oO,ae oO]at hs;have:(if num m<=1\/num o<=1\/(num m-1)%num o≠0 then(13:Int)else 0)=13:=ah oO
  simp only[dE,bQ,bm,an,this];refine eW call119 func119 ?_;simp only[go_sem,seval,fb];exact Wt (aN @hb @fb) @v1 @v2 @sQ @hs
 rw[ah oO,ah oO]at hs
 by_cases m1:num m=1
 ·have:(if num m<=1\/num o<=1\/(num m-1)%num o≠0 then(13:Int)else 0)=13:=ah oO
  simp only[dE,bQ,bm,an,this];rw[m1]at hs;refine eW call119 func119 ?_;simp only[go_sem,seval,fb];exact Wt (aN @hb (aN @fb @G1)) @v1 @v2 @sQ @hs
 have en:=tJ (n:=num m-1) oO;have hd:=sM (a:=num m-1) (b:=num o) oO no oO;rw[e2]at hd;have hz: ∀ _:True,(aX ((num m-1)%num o)==([]:Bytes))=decide ((num m-1)%num o=0):=fun _=>by
  rw[dK];simp[gM]
 by_cases o1:num o<2
 ·have:(if num m<=1\/num o<=1\/(num m-1)%num o≠0 then(13:Int)else 0)=13:=ah oO
  simp only[dE,bQ,bm,an,this];rw[aI o1]at hcl;refine eW call119 func119 ?_;simp only[go_sem,seval,fb];exact Py (aN @hb (aN @fb (aN @en (hcl oT)))) @v1 @v2 @sQ @WY @hs @hcm oT
 rw[aH o1]at hcl
 by_cases hd0:(num m-1)%num o=0
 ·have:(if num m<=1\/num o<=1\/(num m-1)%num o≠0 then(13:Int)else 0)=0:=ae oO
  simp only[dE,bQ,bm,an,this];rw[hd0]at hd;refine eW call119 func119 ?_;simp only[go_sem,seval,fb];exact Py (aN @hb (aN @fb (aN @en (aN (hcl oT) @G1)))) @v1 @v2 @sQ @WY @hs @hcm @hd
 ·have:(if num m<=1\/num o<=1\/(num m-1)%num o≠0 then(13:Int)else 0)=13:=ah oO
  simp only[dE,bQ,bm,an,this];have en2:=tJ hd0;refine eW call119 func119 ?_;simp only[go_sem,seval,fb];exact Py (aN @hb (aN @fb (aN @en (aN (hcl oT) @en2)))) @v1 @v2 @sQ @WY @hs @hcm @hd
theorem tj {m:Bytes} (lm:m.length<=8) (o x:Bytes):aD 130 [G m o, .s x] (.b (iV m o x)):=by
 by_cases ho:o=[]
 ·subst ho;exact Od lm x
 ·have hb:(o==([]:Bytes))=false:=by simpa using ho
  have h:=N2 lm o x;unfold iV;rw[hb];simp only[bm,an];refine eW call130 func130 ?_;exact mi @hb @h
theorem zq {m:Bytes} (lm:m.length<=8) (lo:o.length<=8) (x:Bytes):aD 64 [G m o, .s x] (.b (jn m o x)):=by
 have h1:=kL lm lo;have h2:=tj lm o x;unfold jn;generalize gE m o=z at*;generalize iV m o x=b at*;refine eW call64 func64 ?_;exact Wu @h1 @h2
theorem IE {m:Bytes} (lm:m.length<=8) (lo:o.length<=8) (hE:gE m o=0) (ha:GP m o a) (hb:GP m o b):aD 449 [G m o,N a,N b] (.tup [N (a*b%num m),E 0]):=by
 obtain⟨vm,vo,m1,-,-⟩:=jm hE;have hn:=eP lm;have la:=ha.lt;have lb:=hb.lt;have hm:=qk (a:=a) (b:=b) (m:=num m) oO oO hn oO;have e1:N (num m)= .s m:=congrArg PV.s (gN vm);rw[e1]at hm;have c1:=aS (aX a);have c2:=aS (aX b);rw[vN (show a<(2^64) by omega)]at c1
 rw[vN (show b<(2^64) by omega)]at c2
 have c3:=kL lm lo;rw[hE]at c3;have c4:=tj lm o (aX a);have c5:=tj lm o (aX b);rw[ha.has hE lm]at c4;rw[hb.has hE lm]at c5;have hch:aD 103 [G m o, .sl [N a,N b], .sl [], .b true] (E 0):=by
  refine eW call103 func103 ?_;exact zu5 @c1 @c2 @c3 @c4 @c5
 refine eW call449 func449 ?_;exact z2 @hch @hm
theorem MZ {m:Bytes} (lm:m.length<=8) (lo:o.length<=8) {ng:Bool} (hE:gE m o=0) (hx:GP m o x) (he:aa e=true) (hz:(ng&&e==[])=false):aD 50 [G m o, .sl [N x], .sl [.agg [.b ng, .s e]]] (.tup [N (dh (num m) x ng (num e)),E 0]):=by
 obtain⟨vm,vo,m1,-,-⟩:=jm hE;have hn:=eP lm;have lx:=hx.lt;have c1:=aS (aX x);rw[vN (show x<(2^64) by omega)]at c1
 have c2:=hO ng e;rw[he,hz]at c2;have c3:=kL lm lo;rw[hE]at c3;have c4:=tj lm o (aX x);rw[hx.has hE lm]at c4;have hch:aD 103 [G m o, .sl [N x], .sl [.agg [.b ng, .s e]], .b true] (E 0):=by
  refine eW call103 func103 ?_;exact Y8 @c1 @c2 @c3 @c4
 have hbt:=xC he;have hbi:=fun i hi=>yH he i hi
 have hinv:=rJ (a:=x) (m:=num m) oO hn oO hx.Tb;have hil:=hx.unit.inv.1;clear c1 c2 c3 c4;unfold dh;obtain⟨n,hnn⟩: ∃n,n=num e:=⟨_,rfl⟩;obtain⟨M,hM⟩: ∃M,M=num m:=⟨_,rfl⟩;have eG:G m o= .agg [N M, .s o]:=by rw[hM,show N (num m)= .s m from congrArg PV.s (gN vm)]
 rw[eG]at hch⊢;rw[<-hM]at lx hn m1 hinv hil;rw[<-hnn]at hbt hbi;rw[<-hnn,<-hM];clear hx;have hbl:cE n<1000000:=by
  have h1:n<2^1024:=by
   rw[hnn];refine bH (cL e) ?_;have le:e.length<=128:=by simp[aa]at he;exact he.1
   exact fZ (dF oC le) (by decide+kernel)
  unfold cE;split
  ·decide
  ·rename_i h;have:=(yF h).2 h1;omega
 have hmx: ∀ _:True,(if(cE n:Int)>0 then(cE n:Int)else 0)=(cE n:Int):=fun _=>by split<;>omega
 have hM1:1%M=1:=bY oO;have hw1: ∀ _:True,IntKind.i64.wrap ((cE n:Int)-1)=(cE n:Int)-1:=fun _=>IntWalk.i64_in _ oO
 cases ng
 ·simp only[bm,an];obtain⟨xm,hxm⟩: ∃xm,xm=x:=⟨_,rfl⟩;rw[<-hxm]at hch lx⊢;refine eW call50 func50 ?_;refine uV (aN @Ko (aN @BM (aN @qB (aN @Lf (aN (hmx oT) (aN (hw1 oT) @fb)))))) @hch @hbt @sQ oT ?_;refine ai ?_;refine uV (aN @Ko (aN @BM (aN @qB (aN @Lf (aN (hmx oT) (aN (hw1 oT) @fb)))))) @hch @hbt @sQ oT ?_;refine ai ?_;refine uV (aN @Ko (aN @BM (aN @qB (aN @Lf (aN (hmx oT) (aN (hw1 oT) @fb)))))) @hch @hbt @sQ oT ?_;refine af (α:=Nat) (fun k=>k) (fun k=>⟨[(2, .v (.sl [.agg [.b false, .s e]])),(9, .rs 1017 0 0 1 1),(15, .p 1052 0 0),(16, .fn (.func 106) [] [.p 1052 0 0, .p 1000 0 0]),(17, .v (.i .i64 ((k:Int)-1)))],[(1052,⟨0,[.v (N (xm^(n/2^k)%M))],false,some 22⟩),(1017,⟨0,[.v (N xm)],false,none⟩),(1000,⟨0,[.v (N M), .v (.s o)],false,none⟩)],_⟩) (fun k=>k<=cE n) (cE n) (fun _=>ay _) (ay _) ?_ ?_
  ·(refine AS.Le.of (by first|decide|omega) ?_ ?_<;>simp[dy,dx,aO,az,AV.bd,AV.bd.bdL,u8,ar,ax,aA])
   rw[S7,Nat.pow_zero,hM1]
  ·intro k hk R hR
   cases k with
   |zero=>
    refine xB ?_;rw[iR]
   |succ k=>
    obtain⟨z,hz⟩: ∃z,z=xm^(n/2^(k+1))%M:=⟨_,rfl⟩;have hzm:z<M:=by rw[hz];exact aL _ oO
    have e1: ∀ _:True,((k+1:Nat):Int)-1=(k:Int):=fun _=>oO
    have hge: ∀ _:True,decide ((k:Int)>=0)=true:=fun _=>by simp
    have hbit:=hbi k oO;have hdec:n.testBit k=decide (n/2^k%2=1):=lA;rw[hdec]at hbit;have hwk: ∀ _:True,IntKind.i64.wrap ((k:Int)-1)=(k:Int)-1:=fun _=>IntWalk.i64_in _ oO
    have hdd:n/2^(k+1)=n/2^k/2:=by rw[Nat.pow_succ,eZ]
    have hzz:z*z%M<M:=aL _ oO;rw[<-hz];have hx1:=fun nm=>mM 1052 1000 nm oC o (some 22) none (a:=z) (b:=z) (m:=M) oO oO oO oO
    have hx2:=fun nm=>mM 1052 1000 nm oC o (some 22) none (a:=z*z%M) (b:=xm) (m:=M) oO oO oO oO
    repeat' first|simp only[go_sem,seval,e1 oT,hge oT,fY,eK,qB]|(refine cd (hx1 _) (by simp[az]) ?_)|refine oE ?_|apply xX<;>intro hc
    refine ai ?_;repeat' first|simp only[go_sem,seval,hge oT,hwk oT,fY,eK,qB]|refine cP hbit ?_|(refine cd (hx2 _) (by simp[az]) ?_)|(refine ai ?_)|refine oE ?_|apply xX<;>intro hc
    ·have hb2:n/2^k=2*(n/2^(k+1))+1:=oO;refine hR k oO oO _ ?_;have ez:z*z%M*xm%M=xm^(n/2^k)%M:=by
      have e3:z*z%M=xm^(n/2^(k+1))*xm^(n/2^(k+1))%M:=by rw[hz,<-dp]
      rw[hb2,Nat.pow_succ,qY,cZ,e3,jz]
     rw[<-ez];exact lE
    ·have hb2:n/2^k=2*(n/2^(k+1)):=oO;refine hR k oO oO _ ?_;have ez:z*z%M=xm^(n/2^k)%M:=by
      rw[hb2,qY,cZ,hz,<-dp]
     rw[<-ez];exact lE
 ·simp only[au];obtain⟨xm,hxm⟩: ∃xm,xm=fR x M:=⟨_,rfl⟩;rw[<-hxm]at hinv hil⊢;refine eW call50 func50 ?_;refine uV (aN @Ko (aN @BM (aN @qB (aN @Lf (aN (hmx oT) (aN (hw1 oT) @fb)))))) @hch @hbt @sQ @hinv ?_;refine ai ?_;refine uV (aN @Ko (aN @BM (aN @qB (aN @Lf (aN (hmx oT) (aN (hw1 oT) @fb)))))) @hch @hbt @sQ @hinv ?_;refine ai ?_;refine uV (aN @Ko (aN @BM (aN @qB (aN @Lf (aN (hmx oT) (aN (hw1 oT) @fb)))))) @hch @hbt @sQ @hinv ?_;refine af (α:=Nat) (fun k=>k) (fun k=>⟨[(2, .v (.sl [.agg [.b true, .s e]])),(9, .rs 1017 0 0 1 1),(15, .p 1068 0 0),(16, .fn (.func 106) [] [.p 1068 0 0, .p 1000 0 0]),(17, .v (.i .i64 ((k:Int)-1)))],[(1068,⟨0,[.v (N (xm^(n/2^k)%M))],false,some 22⟩),(1017,⟨0,[.v (N xm)],false,none⟩),(1000,⟨0,[.v (N M), .v (.s o)],false,none⟩)],_⟩) (fun k=>k<=cE n) (cE n) (fun _=>ay _) (ay _) ?_ ?_
  ·(refine AS.Le.of (by first|decide|omega) ?_ ?_<;>simp[dy,dx,aO,az,AV.bd,AV.bd.bdL,u8,ar,ax,aA])
   rw[S7,Nat.pow_zero,hM1]
  ·intro k hk R hR
   cases k with
   |zero=>
    refine xB ?_;rw[iR]
   |succ k=>
    obtain⟨z,hz⟩: ∃z,z=xm^(n/2^(k+1))%M:=⟨_,rfl⟩;have hzm:z<M:=by rw[hz];exact aL _ oO
    have e1: ∀ _:True,((k+1:Nat):Int)-1=(k:Int):=fun _=>oO
    have hge: ∀ _:True,decide ((k:Int)>=0)=true:=fun _=>by simp
    have hbit:=hbi k oO;have hdec:n.testBit k=decide (n/2^k%2=1):=lA;rw[hdec]at hbit;have hwk: ∀ _:True,IntKind.i64.wrap ((k:Int)-1)=(k:Int)-1:=fun _=>IntWalk.i64_in _ oO
    have hdd:n/2^(k+1)=n/2^k/2:=by rw[Nat.pow_succ,eZ]
    have hzz:z*z%M<M:=aL _ oO;rw[<-hz];have hx1:=fun nm=>mM 1068 1000 nm oC o (some 22) none (a:=z) (b:=z) (m:=M) oO oO oO oO
    have hx2:=fun nm=>mM 1068 1000 nm oC o (some 22) none (a:=z*z%M) (b:=xm) (m:=M) oO oO oO oO
    repeat' first|simp only[go_sem,seval,e1 oT,hge oT,fY,eK,qB]|(refine cd (hx1 _) (by simp[az]) ?_)|refine oE ?_|apply xX<;>intro hc
    refine ai ?_;repeat' first|simp only[go_sem,seval,hge oT,hwk oT,fY,eK,qB]|refine cP hbit ?_|(refine cd (hx2 _) (by simp[az]) ?_)|(refine ai ?_)|refine oE ?_|apply xX<;>intro hc
    ·have hb2:n/2^k=2*(n/2^(k+1))+1:=oO;refine hR k oO oO _ ?_;have ez:z*z%M*xm%M=xm^(n/2^k)%M:=by
      have e3:z*z%M=xm^(n/2^(k+1))*xm^(n/2^(k+1))%M:=by rw[hz,<-dp]
      rw[hb2,Nat.pow_succ,qY,cZ,e3,jz]
     rw[<-ez];exact lE
    ·have hb2:n/2^k=2*(n/2^(k+1)):=oO;refine hR k oO oO _ ?_;have ez:z*z%M=xm^(n/2^k)%M:=by
      rw[hb2,qY,cZ,hz,<-dp]
     rw[<-ez];exact lE
theorem jT {m:Bytes} (lm:m.length<=8) (lo:o.length<=8) {ng:Bool} (hE:gE m o=0) (hx:GP m o x) (he:aa e=true) (hz:(ng&&e==[])=false):aD 29 [G m o,N x, .agg [.b ng, .s e]] (.tup [N (dh (num m) x ng (num e)),E 0]):=by
 have hp:=MZ lm lo hE hx he hz;refine eW call29 func29 ?_;exact z1 @hp
end Go.Proofs.Tryz
namespace Go.Proofs.Tryz
open Go Go.Dom Go.Num
structure eF where
 (base:Bytes) (var:Int) (neg:Bool) (abs:Bytes)
def eF.pv:eF->PV
 |⟨b,v,n,a⟩=> .agg [.s b, .i .i64 v, .b n, .s a]
structure da where
 (mT:Int) (tgt:Bytes) (terms:List eF)
def da.pv:da->PV
 |⟨g,t,l⟩=> .agg [.i .i64 g, .s t, .sl (l.map eF.pv)]
def eu:Bytes×Bytes->PV
 |(m,o)=> .agg [.s m, .s o]
def cl (b:Bytes):PV:= .agg [.s b]
def dI:Bool×Bytes->PV
 |(n,a)=> .agg [.b n, .s a]
structure cG where
 (groups:List (Bytes×Bytes)) (vars:List Bytes) (eqs:List da)
def cG.pv (s:cG):PV:= .agg [.sl (s.groups.map eu), .sl (s.vars.map cl), .sl (s.eqs.map da.pv)]
def gW (z:Int):Bool×Bytes:=(zs z,zb z)
theorem Rh (z:Int):dI (gW z)=Z z:=rfl
def Zp (z:Int):PV:=dI (gW z)
def cJ (x:Bool×Bytes):Bool:=aa x.2&& !(x.1&&x.2==[])
def eR:eF:=⟨[],0,false,[]⟩
def gF:da:=⟨0,[],[]⟩
def fC:Bytes×Bytes:=([],[])
def kJ:Bool×Bytes:=(false,[])
structure W6 (s:cG):Prop where
 g: ∀p∈s.groups,gE p.1 p.2=0/\p.1.length<=8/\p.2.length<=8
 v: ∀b∈s.vars,aa b=true/\b≠[]/\b.length<=16
 q: ∀q∈s.eqs,0<=q.mT/\q.mT<s.groups.length/\iV (s.groups.getD q.mT.toNat fC).1 (s.groups.getD q.mT.toNat fC).2 q.tgt=true/\q.terms.length<=64/\
  ∀t∈q.terms,0<=t.var/\t.var<s.vars.length/\iV (s.groups.getD q.mT.toNat fC).1 (s.groups.getD q.mT.toNat fC).2 t.base=true/\cJ (t.neg,t.abs)=true
 ng:s.groups.length<=8
 nv:s.vars.length<=64
 ne:s.eqs.length<=64
structure WC (s:cG):Prop where
 g: ∀p∈s.groups,gE p.1 p.2=0/\p.1.length<=8/\p.2.length<=8
 q: ∀q∈s.eqs,0<=q.mT/\q.mT<s.groups.length/\iV (s.groups.getD q.mT.toNat fC).1 (s.groups.getD q.mT.toNat fC).2 q.tgt=true/\q.terms.length<=64/\
  ∀t∈q.terms,0<=t.var/\t.var<s.vars.length/\iV (s.groups.getD q.mT.toNat fC).1 (s.groups.getD q.mT.toNat fC).2 t.base=true/\cJ (t.neg,t.abs)=true
 ng:s.groups.length<=8
 nv:s.vars.length<=64
 ne:s.eqs.length<=64
theorem W6.m {s:cG} (h:W6 s):WC s:=⟨h.g,h.q,h.ng,h.nv,h.ne⟩
theorem getD_map {α:Type} (f:α->PV) (l:List α) (d:α) {i:Nat} (h:i<l.length):(l.map f).getD i .fn0=f (l.getD i d):=by
 simp[bu,h]
theorem aT {α:Type} {l:List α} {i:Nat} (d:α) (h:i<l.length):l.drop i=l.getD i d::l.drop (i+1):=by
 rw[jf h,bu,bC h];rfl
theorem aq {α:Type} {l:List α} {i:Nat} (d:α) (h:i<l.length):l.getD i d∈l:=by
 rw[bu,bC h];exact j9 h
theorem kM {m o x:Bytes} (hE:gE m o=0) (h:iV m o x=true):aa x=true:=((cH hE).1 h).1
theorem AW (l:List (Bool×Bytes)) (f:FuncId) (p:(Bool×Bytes)->Bool) (hl:l.length<4611686018427387904) (h: ∀x,aD f [dI x] (.b (p x))):aD 249 [.sl (l.map dI), .fn (.func f)] (E (eN p 0 l)):=by
 have hlm:(l.map dI).length=l.length:=aB ..;refine eW call249 func249 ?_;refine cU @hlm ?_;refine af (α:=Nat) (fun i=>l.length-i) (fun i=>⟨[(0, .v (.sl (l.map dI))),(1, .v (.fn (.func f))),(7, .v (.i .i64 l.length)),(8, .v (.i .i64 (i:Nat)))],[],_⟩) (fun i=>i<=l.length/\eN p i (l.drop i)=eN p 0 l) 0 (fun _=>ay _) ⟨aJ _,rfl⟩ ?_ ?_
 ·exact lE
 ·rintro i ⟨hi,hx⟩ R hR;rw[<-hx]
  by_cases hlt:i<l.length
  ·have e1:=getD_map dI l kJ hlt;have hf:=h (l.getD i kJ);have hgo:=hR (i+1);rw[<-hx,aT kJ hlt]at hgo;rw[aT kJ hlt];simp only[eN]at hgo⊢;clear hx hR h;obtain⟨b,hb⟩: ∃b,b=p (l.getD i kJ):=⟨_,rfl⟩;rw[<-hb]at hf hgo⊢;clear hb;obtain⟨x,hxx⟩: ∃x,x=l.getD i kJ:=⟨_,rfl⟩;rw[<-hxx]at e1 hf;clear hxx;cases x;simp only[dI]at e1 hf;cases b
   ·have hgo:=hgo ⟨oO,rfl⟩ oO;exact gV (aN @hlm @e1) @hgo @hf
   ·exact mi (aN @hlm @e1) @hf
  ·obtain rfl:i=l.length:=oO;rw[cO];repeat' first|simp only[go_sem,seval,hlm]|refine oE ?_|apply xX<;>intro hc
   all_goals simp[eN]
theorem gD (l:List (Bool×Bytes)) (f:FuncId) (p:(Bool×Bytes)->Bool) (hl:l.length<4611686018427387904) (h: ∀x,aD f [dI x] (.b (p x))):aD 139 [.sl (l.map dI), .fn (.func f)] (.b (l.any p)):=by
 have hi:=AW l f p hl h;have e:decide (eN p 0 l>=0)=l.any p:=by
  rw[dK,decide_eq_true_iff];exact iX
 refine eW call139 func139 ?_;exact mi @e @hi
theorem Ba (l:List da) (f:FuncId) (p:da->Bool) (hl:l.length<4611686018427387904) (h: ∀x,aD f [da.pv x] (.b (p x))):aD 469 [.sl (l.map da.pv), .fn (.func f)] (E (eN p 0 l)):=by
 have hlm:(l.map da.pv).length=l.length:=aB ..;refine eW call469 func469 ?_;refine cU @hlm ?_;refine af (α:=Nat) (fun i=>l.length-i) (fun i=>⟨[(0, .v (.sl (l.map da.pv))),(1, .v (.fn (.func f))),(7, .v (.i .i64 l.length)),(8, .v (.i .i64 (i:Nat)))],[],_⟩) (fun i=>i<=l.length/\eN p i (l.drop i)=eN p 0 l) 0 (fun _=>ay _) ⟨aJ _,rfl⟩ ?_ ?_
 ·exact lE
 ·rintro i ⟨hi,hx⟩ R hR;rw[<-hx]
  by_cases hlt:i<l.length
  ·have e1:=getD_map da.pv l gF hlt;have hf:=h (l.getD i gF);have hgo:=hR (i+1);rw[<-hx,aT gF hlt]at hgo;rw[aT gF hlt];simp only[eN]at hgo⊢;clear hx hR h;obtain⟨b,hb⟩: ∃b,b=p (l.getD i gF):=⟨_,rfl⟩;rw[<-hb]at hf hgo⊢;clear hb;obtain⟨x,hxx⟩: ∃x,x=l.getD i gF:=⟨_,rfl⟩;rw[<-hxx]at e1 hf;clear hxx;cases x;simp only[da.pv]at e1 hf;cases b
   ·have hgo:=hgo ⟨oO,rfl⟩ oO;exact gV (aN @hlm @e1) @hgo @hf
   ·exact mi (aN @hlm @e1) @hf
  ·obtain rfl:i=l.length:=oO;rw[cO];repeat' first|simp only[go_sem,seval,hlm]|refine oE ?_|apply xX<;>intro hc
   all_goals simp[eN]
theorem u6 (l:List da) (f:FuncId) (p:da->Bool) (hl:l.length<4611686018427387904) (h: ∀x,aD f [da.pv x] (.b (p x))):aD 436 [.sl (l.map da.pv), .fn (.func f)] (.b (l.any p)):=by
 have hi:=Ba l f p hl h;have e:decide (eN p 0 l>=0)=l.any p:=by
  rw[dK,decide_eq_true_iff];exact iX
 refine eW call436 func436 ?_;exact mi @e @hi
theorem Bb (l:List eF) (f:FuncId) (c:List PV) (p:eF->Bool) (hl:l.length<4611686018427387904) (h: ∀x,aD f (x.pv::c) (.b (p x))):aD 470 [.sl (l.map eF.pv), .fc f [] c] (E (eN p 0 l)):=by
 have hlm:(l.map eF.pv).length=l.length:=aB ..;refine eW call470 func470 ?_;refine cU @hlm ?_;refine af (α:=Nat) (fun i=>l.length-i) (fun i=>⟨[(0, .v (.sl (l.map eF.pv))),(1, .v (.fc f [] c)),(7, .v (.i .i64 l.length)),(8, .v (.i .i64 (i:Nat)))],[],_⟩) (fun i=>i<=l.length/\eN p i (l.drop i)=eN p 0 l) 0 (fun _=>ay _) ⟨aJ _,rfl⟩ ?_ ?_
 ·exact lE
 ·rintro i ⟨hi,hx⟩ R hR;rw[<-hx]
  by_cases hlt:i<l.length
  ·have e1:=getD_map eF.pv l eR hlt;have hf:=h (l.getD i eR);have hgo:=hR (i+1);rw[<-hx,aT eR hlt]at hgo;rw[aT eR hlt];simp only[eN]at hgo⊢;clear hx hR h;obtain⟨b,hb⟩: ∃b,b=p (l.getD i eR):=⟨_,rfl⟩;rw[<-hb]at hf hgo⊢;clear hb;obtain⟨x,hxx⟩: ∃x,x=l.getD i eR:=⟨_,rfl⟩;rw[<-hxx]at e1 hf;clear hxx;cases x;simp only[eF.pv]at e1 hf;cases b
   ·have hgo:=hgo ⟨oO,rfl⟩ oO;repeat' first|simp only[go_sem,seval,hlm,e1]|(refine jb hf (nM _ _) ?_)|refine oE ?_|apply xX<;>intro hc
    refine hgo _ ?_;exact lE
   ·repeat' first|simp only[go_sem,seval,hlm,e1]|(refine jb hf (nM _ _) ?_)|refine oE ?_|apply xX<;>intro hc
    all_goals rfl
  ·obtain rfl:i=l.length:=oO;rw[cO];repeat' first|simp only[go_sem,seval,hlm]|refine oE ?_|apply xX<;>intro hc
   all_goals simp[eN]
theorem u7 (l:List eF) (f:FuncId) (c:List PV) (p:eF->Bool) (hl:l.length<4611686018427387904) (h: ∀x,aD f (x.pv::c) (.b (p x))):aD 438 [.sl (l.map eF.pv), .fc f [] c] (.b (l.any p)):=by
 have hi:=Bb l f c p hl h;have e:decide (eN p 0 l>=0)=l.any p:=by
  rw[dK,decide_eq_true_iff];exact iX
 refine eW call438 func438 ?_;exact mi @e @hi
theorem Bc (l:List Bytes) (f:FuncId) (p:Bytes->Bool) (hl:l.length<4611686018427387904) (h: ∀x,aD f [cl x] (.b (p x))):aD 443 [.sl (l.map cl), .fn (.func f)] (E (eN p 0 l)):=by
 have hlm:(l.map cl).length=l.length:=aB ..;refine eW call443 func443 ?_;refine cU @hlm ?_;refine af (α:=Nat) (fun i=>l.length-i) (fun i=>⟨[(0, .v (.sl (l.map cl))),(1, .v (.fn (.func f))),(7, .v (.i .i64 l.length)),(8, .v (.i .i64 (i:Nat)))],[],_⟩) (fun i=>i<=l.length/\eN p i (l.drop i)=eN p 0 l) 0 (fun _=>ay _) ⟨aJ _,rfl⟩ ?_ ?_
 ·exact lE
 ·rintro i ⟨hi,hx⟩ R hR;rw[<-hx]
  by_cases hlt:i<l.length
  ·have e1:=getD_map cl l [] hlt;have hf:=h (l.getD i []);have hgo:=hR (i+1);rw[<-hx,aT [] hlt]at hgo;rw[aT [] hlt];simp only[eN]at hgo⊢;clear hx hR h;generalize p (l.getD i [])=b at*;generalize l.getD i []=x at*;simp only[cl]at e1 hf;cases b
   ·have hgo:=hgo ⟨oO,rfl⟩ oO;exact gV (aN @hlm @e1) @hgo @hf
   ·exact mi (aN @hlm @e1) @hf
  ·obtain rfl:i=l.length:=oO;rw[cO];repeat' first|simp only[go_sem,seval,hlm]|refine oE ?_|apply xX<;>intro hc
   all_goals simp[eN]
theorem u9 (l:List Bytes) (f:FuncId) (p:Bytes->Bool) (hl:l.length<4611686018427387904) (h: ∀x,aD f [cl x] (.b (p x))):aD 371 [.sl (l.map cl), .fn (.func f)] (.b (l.any p)):=by
 have hi:=Bc l f p hl h;have e:decide (eN p 0 l>=0)=l.any p:=by
  rw[dK,decide_eq_true_iff];exact iX
 refine eW call371 func371 ?_;exact mi @e @hi
end Go.Proofs.Tryz
namespace Go.Proofs.Tryz
open Go Go.Dom Go.Num
variable {b c sl:Bytes}
theorem Rv (q:da):aD 437 [q.pv] (.b (decide (64<q.terms.length))):=by
 obtain⟨g,t,l⟩:=q;have l4:(l.map eF.pv).length=l.length:=aB ..;have hd:decide ((l.length:Int)>64)=decide (64<l.length):=by rw[lF];omega
 unfold da.pv;refine eW call437 func437 ?_;exact gn (aN @l4 @hd)
theorem Rk {m:Bytes} (lm:m.length<=8) {o:Bytes} (lo:o.length<=8) (t:eF):aD 439 [t.pv, .pt (eu (m,o)) 0] (.b (!jn m o t.base)):=by
 obtain⟨b,v,n,a⟩:=t;have h:=zq lm lo b;simp only[eF.pv,eu];generalize jn m o b=z at*;refine eW call439 func439 ?_;exact z1 @h
theorem U9 (b:Bytes):aD 440 [cl b] (.b (b==[])):=by
 unfold cl;refine eW call440 func440 ?_;exact z0
def bA:List (Bytes×Bytes)->Bytes
 |[]=>[]
 |g::r=>if g.2=[]then bA r else g.2
theorem Cq (s:cG) (hl:s.groups.length<1000000):aD 255 [s.pv] (.s (bA s.groups)):=by
 obtain⟨gs,vs,es⟩:=s;simp only at hl;have l1:(gs.map eu).length=gs.length:=aB ..;unfold cG.pv;simp only;refine eW call255 func255 ?_;refine cU @l1 ?_;refine af (α:=Nat) (fun i=>gs.length-i) (fun i=>⟨[(1, .p 1000 0 0),(6, .v (.sl (gs.map eu))),(7,E' gs.length),(8,E' i)],[(1000,⟨0,[.v (.sl (gs.map eu)), .v (.sl (vs.map cl)), .v (.sl (es.map da.pv))],false,none⟩)],_⟩) (fun i=>i<=gs.length/\bA (gs.drop i)=bA gs) 0 (fun _=>ay _) ⟨aJ _,rfl⟩ ?_ ?_
 ·exact lE
 ·rintro i ⟨hi,hf⟩ R hR;rw[<-hf]
  by_cases hlt:i<gs.length
  ·have e1:=getD_map eu gs fC hlt;have hgo:=hR (i+1);rw[<-hf]at hgo;rw[aT fC hlt]at hgo⊢;obtain⟨x,hx⟩: ∃x,x=gs.getD i fC:=⟨_,rfl⟩;rw[<-hx]at e1 hgo⊢;clear hx hf hR;obtain⟨m,o⟩:=x;simp only[bA]at hgo⊢;simp only[eu]at e1
   by_cases ho:o=[]
   ·subst ho;simp only[au]at hgo⊢;have hgo:=hgo ⟨oO,trivial⟩ oO;exact jC (aN @l1 (aN @e1 @nn)) @hgo
   ·have hb:(o==([]:Bytes))=false:=by simpa using ho
    rw[ae ho];exact gn (aN @l1 (aN @e1 @hb))
  ·obtain rfl:i=gs.length:=oO;rw[cO];exact gn @l1
theorem OZ (h:b≠[]):aD 256 [cl b] (E 1):=by
 have hb:(b==([]:Bytes))=false:=by simpa using h
 unfold cl;refine eW call256 func256 ?_;exact gn @hb
structure sR (c sl:Bytes):Prop where
 vc:aa c=true
 vs:aa sl=true
 lc:c.length<=8
 ls:sl.length<=8
 c2:2<=num c
 s2:2<=num sl
def qj (c sl b:Bytes):Nat:=num sl*num c*num b
def Nz (c sl b:Bytes):Nat:=num sl*num c*num b-(num c-1)*(num b-1)
def XD (c sl b:Bytes):PV:= .agg [N (qj c sl b),N (Nz c sl b)]
theorem Fe (h:b.length<=16):num b<dL:=bH (cL b) (dF oC h)
theorem xJ (hr:sR c sl) (hb:b.length<=16):qj c sl b<cW:=by
 have h1:num sl*num c<(2^64)*(2^64):=gQ (eP hr.ls) (eP hr.lc);have h2:qj c sl b<(2^64)*(2^64)*dL:=gQ h1 (Fe hb);exact bH h2 (by unfold cW dL;decide+kernel)
theorem NA (hr:sR c sl):(num c-1)*(num b-1)<=qj c sl b:=by
 unfold qj;have h1:(num c-1)*(num b-1)<=num c*num b:=j8 oO oO;have h2:num c*num b<=num sl*(num c*num b):=DT _ (by have:=hr.s2;omega)
 rw[cF];omega
theorem ug {q:Bytes} (hr:sR c sl) (vb:aa b=true) (hb:b≠[]) (lb:b.length<=16):aD 258 [.agg [.s c, .s sl, .s q], .s b] (.tup [XD c sl b,E 0]):=by
 have h64:=lr;have hw:=Gd;have hML:=xJ hr lb;have hle:=NA (b:=b) hr;have hnc:=eP hr.lc;have hns:=eP hr.ls;have hnb:=qP (bL vb) hb;have hb16:=Fe lb;have e1:=eE hr.vc;have e2:=eE hr.vs;have e3:=eE vb;have m1:=RA (a:=num sl) (b:=num c) (bH (gQ hns hnc) (by unfold cW;decide+kernel)) oO oO
 have m2:=RA (a:=num sl*num c) (b:=num b) hML (bH (gQ hns hnc) (by unfold cW;decide+kernel)) (by have:=xz;omega)
 have s1:=xy (a:=num c) (b:=1) (by have:=hr.c2;omega) oO
 have s2:=xy (a:=num b) (b:=1) oO (by have:=xz;omega)
 have m3:=RA (a:=num c-1) (b:=num b-1) oO oO (by have:=xz;omega)
 have s3:=xy (a:=num sl*num c*num b) (b:=(num c-1)*(num b-1)) hle hML;rw[e1,e2]at m1;rw[e3]at m2;rw[e1]at s1;rw[e3]at s2;have hP:XD c sl b= .agg [N (num sl*num c*num b),N (num sl*num c*num b-(num c-1)*(num b-1))]:=rfl;rw[hP];clear hML hle hP;generalize num sl*num c*num b=A at*;generalize num sl*num c=B at*;generalize A-(num c-1)*(num b-1)=C at*;generalize (num c-1)*(num b-1)=D at*;refine eW call258 func258 ?_;exact AU @fb @sQ @m1 @m2 @s1 @s2 @m3 @s3
