/- Part of the proof. -/
import Derived.Test.YtkmahpcpmgedkaaGreatDoorFC24
set_option linter.all false
set_option maxHeartbeats 16000000
set_option maxRecDepth 100000
namespace Go.Dom
structure dL {α:Type} (f:α->PV) (z:Nat):Prop where
 len: ∀x,(f x).cells.length=z
 one: ∀x,∀y∈(f x).cells,y.one=true
 z1:z=1-> ∀x,(f x).cells=[f x]
 zn:z≠1-> ∀x,f x= .agg (f x).cells
def aX {α:Type} (f:α->PV) (l:List α):List AV:=(l.flatMap fun x=>(f x).cells).map AV.v
variable {α:Type} {f:α->PV} {z:Nat}
variable {i k n ver:Nat}
theorem dL.s:dL PV.s 1:=⟨fun _=>rfl,fun _ y hy=>by cases cR.1 hy;rfl,fun _ _=>rfl,fun h=>aM rfl h⟩
theorem J0 (h:dL f z) (l:List α):(l.flatMap fun x=>(f x).cells).length=l.length*z:=by
 induction l with
 |nil=>simp
 |cons x l ih=>rw[eu,bT,ih,h.len,List.length_cons,iQ];omega
theorem cj (h:dL f z) (l:List α):(aX f l).length=l.length*z:=by rw[aX,aC,J0 h]
theorem cq (h:dL f z) (l:List α):(aX f l).take (l.length*z)=aX f l:=cl (by rw[cj h];exact aA _)
theorem dQ (h:dL f z) (l:List α):(aX f l).all AV.one=true:=by
 rw[bH];intro y hy;obtain⟨c,hc,rfl⟩:=bm.1 hy;obtain⟨x,-,hx⟩:=kq.1 hc;exact h.one x c hx
theorem ec (hf:Nat->Option aF) (k:Nat) (l:List α):bz (view hf (k+1)) (aX f l)=some (l.flatMap fun x=>(f x).cells):=fm _ _ _
theorem px (hf:Nat->Option aF) (k:Nat) (l:List α):(aX f l).flatMap (aU hf (k+1))=[]:=by
 unfold aX
 induction (l.flatMap fun x=>(f x).cells)with
 |nil=>rfl
 |cons x l ih=>simp_all[aU]
theorem cJ (h:dL f z) (l:List α):chunk z l.length (l.flatMap fun x=>(f x).cells)=l.map f:=by
 induction l with
 |nil=>rfl
 |cons x l ih=>
  have hl:=h.len x;rw[List.length_cons,eu,chunk,List.drop_left' hl,ih,bC];congr 1
  by_cases h1:z=1
  ·rw[ah h1,h.z1 h1 x];rfl
  ·rw[ae h1,List.take_left' hl];exact(h.zn h1 x).symm
theorem cL {l:List α} {c:AV} (h:c∈aX f l):c.bd n=true:=by
 obtain⟨x,-,rfl⟩:=bm.1 h;rfl
theorem bU (l:List α) (x:α):aX f (l++[x])=aX f l++(f x).cells.map AV.v:=by
 simp[aX,uy]
theorem vL (h: ∀x,(f x).cells=[f x]) (l:List α) (d:α) (hi:i<l.length):(aX f l).getD i .u= .v (f (l.getD i d)):=by
 have e:aX f l=l.map fun x=>AV.v (f x):=by
  unfold aX;clear hi
  induction l with
  |nil=>rfl
  |cons x l ih=>rw[eu,h x,jv,ih];rfl
 rw[e];simp[br,hi]
theorem qV (h:dL f z) {hf:Nat->Option aF} {gr:Bool} {el:Option TypeId} {l:List α} {m:Nat} (hm:m=l.length) (hg:hf n=some ⟨ver,aX f l,gr,el⟩):view hf (k+2) (.rs n ver 0 m z)=some (.sl (l.map f)):=by
 subst hm;have h1:=cj h l;have h2:=dQ h l;have h3:=cq h l;simp[view,hg,h1,h2,h3,ec,cJ h]
theorem pC (h:dL f z) {hf:Nat->Option aF} {gr:Bool} {el:Option TypeId} {l:List α} {m:Nat} (hm:m=l.length) (hg:hf n=some ⟨ver,aX f l,gr,el⟩):aU hf (k+2) (.rs n ver 0 m z)=[n]:=by
 subst hm;simp[aU,hg,cq h,px]
theorem aS {α:Type} {l:List α} (d:α) (h:i<l.length):l.take (i+1)=l.take i++[l.getD i d]:=by
 rw[List.take_succ,bw h,br,bw h];rfl
theorem np {α:Type} (l:List α) (p:α->Bool):(l.any fun x=> !p x)= !l.all p:=by
 induction l with
 |nil=>rfl
 |cons x l ih=>rw[List.any_cons,List.all_cons,ih];cases p x<;>simp
end Go.Dom
namespace Go.Proofs.Tryz
open Go Go.Dom Go.Num
variable {a b n x:Nat} {e o:Bytes}
def gE (m o:Bytes):Int:=if !(aa m&&aa o)then 3 else if o==[]then(if jg m []then 0 else 13)else if num m<=1\/num o<=1\/(num m-1)%num o≠0 then 13 else 0
def jz (m o x:Bytes):Bool:=if o==[]then zX m [] x else nK m o x
def jb (m o x:Bytes):Bool:=decide (gE m o=0)&&jz m o x
structure GP (m o:Bytes) (n:Nat):Prop where
 lt:n<num m
 SQ:Nat.gcd n (num m)=1
 ord:o=[]\/n^num o%num m=1%num m
theorem jf {m o:Bytes} (h:gE m o=0):aa m=true/\aa o=true/\1<num m/\(o=[]->jg m []=true)/\(o≠[]->1<num o/\(num m-1)%num o=0):=by
 unfold gE at h
 split at h
 ·cases h
 ·rename_i h1;have h1:aa m=true/\aa o=true:=by simpa using h1
  split at h
  ·rename_i h2
   split at h
   ·rename_i h3;have h4:8<num m:=by simp only[jg,ba,cK]at h3;exact h3.2
    exact⟨h1.1,h1.2,oO,fun _=>h3,fun g=>aM (by simpa using h2) g⟩
   ·cases h
  ·rename_i h2
   split at h
   ·cases h
   ·rename_i h3;exact⟨h1.1,h1.2,oO,fun g=>aM g (by simpa using h2),fun _=>oO⟩
theorem yS {x i m:Nat} (hm:1<m) (h:x*i%m=1%m):Nat.gcd x m=1:=by
 have h1:Nat.gcd x m∣x*i%m:=by
  have d1:Nat.gcd x m∣x*i:=Nat.dvd_trans (DL x m) (Nat.dvd_mul_right x i);exact(Nat.dvd_mod_iff (DD x m)).2 d1
 rw[h,b9 hm]at h1;exact Nat.dvd_one.1 h1
theorem ct {m o x:Bytes} (h:gE m o=0):jz m o x=true↔aa x=true/\GP m o (num x):=by
 obtain⟨vm,vo,m1,hr,hp⟩:=jf h;unfold jz
 by_cases ho:o=[]
 ·subst ho;have hb:=hr rfl;simp only[iq,ax,zX,hb,ba,cK,fJ,fk,rp];constructor
  ·rintro⟨⟨⟨h1,h2⟩,h3⟩,h4⟩;exact⟨h1,h3,h4, .inl rfl⟩
  ·rintro⟨h1,h3,h4,-⟩;refine⟨⟨⟨h1,?_⟩,h3⟩,h4⟩;intro e;subst e;simp[num]at h4;omega
 ·have hb:(o==([]:Bytes))=false:=by simpa using ho
  obtain⟨o1,od⟩:=hp ho;simp only[hb,bu,aq,nK,vm,vo,ba,cK,fJ,fk,rp,cv,and_true];constructor
  ·rintro⟨⟨⟨h1,h2⟩,h3⟩,h4⟩;have:num x^num o=num x*num x^(num o-1):=by rw[<-x6];congr 1;omega
   rw[this]at h4;exact⟨h1,h3,yS m1 h4, .inr (by rw[this];exact h4)⟩
  ·rintro⟨h1,h3,h4,h5⟩;refine⟨⟨⟨h1,?_⟩,h3⟩,h5.resolve_left ho⟩;intro e;subst e;simp[num]at h4;omega
theorem EG (a b:Nat):Nat.gcd (a%b) b=Nat.gcd a b:=by rw[<-mA,kZ]
theorem GP.unit {m o:Bytes} (h:GP m o n):fD (num m) n:=gL (by have:=h.lt;omega) h.SQ
theorem GP.mul {m o:Bytes} (ha:GP m o a) (hb:GP m o b):GP m o (a*b%num m):=by
 have h0:0<num m:=by have:=ha.lt;omega
 refine⟨aL _ h0,?_,?_⟩
 ·rw[EG];exact Nat.Coprime.mul_left ha.SQ hb.SQ
 ·rcases ha.ord with h|h
  ·exact .inl h
  ·rcases hb.ord with g|g
   ·exact .inl g
   ·refine .inr ?_;rw[<-kW,xJ,du,h,g,<-du,jL]
theorem GP.pow {m o:Bytes} (ha:GP m o a) (e:Nat):GP m o (a^e%num m):=by
 have h0:0<num m:=by have:=ha.lt;omega
 refine⟨aL _ h0,?_,?_⟩
 ·rw[EG];exact Nat.Coprime.pow_left e ha.SQ
 ·rcases ha.ord with h|h
  ·exact .inl h
  ·refine .inr ?_;rw[<-kW,<-ky,bO,ky,kW,h,<-kW,qY]
theorem GP.inv {m o:Bytes} (ha:GP m o a) (m1:1<num m):GP m o (fR a (num m)):=by
 have h0:0<num m:=oO;obtain⟨g1,g2⟩:=ha.unit.inv;refine⟨g1,yS (i:=a) m1 (by rw[bO];exact g2),?_⟩
 rcases ha.ord with h|h
 ·exact .inl h
 ·refine .inr ?_;have e1:(a*fR a (num m))^num o%num m=1%num m:=by rw[kW,g2,<-kW,qY]
  rw[xJ,du,h,<-du,jL]at e1;exact e1
theorem GP.de {m o:Bytes} (ha:GP m o a) (m1:1<num m) (ng:Bool) (e:Nat):GP m o (Dom.de (num m) a ng e):=by
 unfold Dom.de;cases ng
 ·exact ha.pow e
 ·exact(ha.inv m1).pow e
theorem GP.has {m o:Bytes} (h:GP m o n) (hE:gE m o=0) (lm:m.length<=8):jz m o (aY n)=true:=by
 have:=eR lm;exact(ct hE).2 ⟨vN (by have:=h.lt;omega),by rw[aQ];exact h⟩
theorem kL {m:Bytes} (lm:m.length<=8) (lo:o.length<=8):aE 119 [G m o] (E (gE m o)):=by
 by_cases ho:o=[]
 ·subst ho;have:=G3 m;have e:gE m []=VP m:=by
   unfold gE VP;have hv0:aa []=true:=rfl
   cases aa m<;>simp[hv0]
  rw[e];exact this
 have hb:(o==([]:Bytes))=false:=by simpa using ho
 have v1:=aT m;have v2:=aT o;unfold gE
 by_cases hv:aa m=true/\aa o=true
 case neg=>
  have:(aa m&&aa o)=false:=by rw[fz];intro g;simp at g;exact hv g
  rw[this];generalize aa m=b1 at*;generalize aa o=b2 at*;refine eW call119 func119 ?_;exact Wq @v1 @v2
 obtain⟨vm,vo⟩:=hv;have nm:=eR lm;have no:=eR lo;have hop:num o≠0:=fun e=>ho ((tB vo).1 e)
 rw[vm]at v1;rw[vo]at v2;rw[vm,vo,hb];have hs:=Zy (a:=num m) (b:=1) nm oC;have hcm:=mK o [2];rw[vo,show aa [2]=true from rfl,show num [2]=2 from rfl]at hcm
 simp only[dt,ax]at hcm;have hcl: ∀ _:True,decide (bc (num o) 2<0)=decide (num o<2):=fun _=>by
  rw[ew];simp[fM]
 have e1:N (num m)= .s m:=congrArg PV.s (iu vm);have e2:N (num o)= .s o:=congrArg PV.s (iu vo);rw[e1]at hs;generalize bc (num o) 2=cm at*
 by_cases m0:num m=0
 ·rw[ae oO,ae oO]at hs;have:(if num m<=1\/num o<=1\/(num m-1)%num o≠0 then(13:Int)else 0)=13:=ah oO
  simp only[dt,bV,bu,aq,this];refine eW call119 func119 ?_;simp only[go_sem,seval,e9];exact Wo (aN @hb @e9) @v1 @v2 @sO @hs
 rw[ah oO,ah oO]at hs
 by_cases m1:num m=1
 ·have:(if num m<=1\/num o<=1\/(num m-1)%num o≠0 then(13:Int)else 0)=13:=ah oO
  simp only[dt,bV,bu,aq,this];rw[m1]at hs;refine eW call119 func119 ?_;simp only[go_sem,seval,e9];exact Wo (aN @hb (aN @e9 @GQ)) @v1 @v2 @sO @hs
 have en:=si (n:=num m-1) oO;have hd:=sK (a:=num m-1) (b:=num o) oO no oO;rw[e2]at hd;have hz: ∀ _:True,(aY ((num m-1)%num o)==([]:Bytes))=decide ((num m-1)%num o=0):=fun _=>by
  rw[ew];simp[iJ]
 by_cases o1:num o<2
 ·have:(if num m<=1\/num o<=1\/(num m-1)%num o≠0 then(13:Int)else 0)=13:=ah oO
  simp only[dt,bV,bu,aq,this];rw[aJ o1]at hcl;refine eW call119 func119 ?_;simp only[go_sem,seval,e9];exact Pl (aN @hb (aN @e9 (aN @en (hcl oT)))) @v1 @v2 @sO @WU @hs @hcm oT
 rw[aG o1]at hcl
 by_cases hd0:(num m-1)%num o=0
 ·have:(if num m<=1\/num o<=1\/(num m-1)%num o≠0 then(13:Int)else 0)=0:=ae oO
  simp only[dt,bV,bu,aq,this];rw[hd0]at hd;refine eW call119 func119 ?_;simp only[go_sem,seval,e9];exact Pl (aN @hb (aN @e9 (aN @en (aN (hcl oT) @GQ)))) @v1 @v2 @sO @WU @hs @hcm @hd
 ·have:(if num m<=1\/num o<=1\/(num m-1)%num o≠0 then(13:Int)else 0)=13:=ah oO
  simp only[dt,bV,bu,aq,this];have en2:=si hd0;refine eW call119 func119 ?_;simp only[go_sem,seval,e9];exact Pl (aN @hb (aN @e9 (aN @en (aN (hcl oT) @en2)))) @v1 @v2 @sO @WU @hs @hcm @hd
theorem th {m:Bytes} (lm:m.length<=8) (o x:Bytes):aE 130 [G m o, .s x] (.b (jz m o x)):=by
 by_cases ho:o=[]
 ·subst ho;exact N8 lm x
 ·have hb:(o==([]:Bytes))=false:=by simpa using ho
  have h:=NW lm o x;unfold jz;rw[hb];simp only[bu,aq];refine eW call130 func130 ?_;exact m9 @hb @h
theorem yR {m:Bytes} (lm:m.length<=8) (lo:o.length<=8) (x:Bytes):aE 64 [G m o, .s x] (.b (jb m o x)):=by
 have h1:=kL lm lo;have h2:=th lm o x;unfold jb;generalize gE m o=z at*;generalize jz m o x=b at*;refine eW call64 func64 ?_;exact Wq @h1 @h2
theorem Io {m:Bytes} (lm:m.length<=8) (lo:o.length<=8) (hE:gE m o=0) (ha:GP m o a) (hb:GP m o b):aE 449 [G m o,N a,N b] (.tup [N (a*b%num m),E 0]):=by
 obtain⟨vm,vo,m1,-,-⟩:=jf hE;have hn:=eR lm;have la:=ha.lt;have lb:=hb.lt;have hm:=ql (a:=a) (b:=b) (m:=num m) oO oO hn oO;have e1:N (num m)= .s m:=congrArg PV.s (iu vm);rw[e1]at hm;have c1:=aT (aY a);have c2:=aT (aY b);rw[vN (show a<(2^64) by omega)]at c1
 rw[vN (show b<(2^64) by omega)]at c2
 have c3:=kL lm lo;rw[hE]at c3;have c4:=th lm o (aY a);have c5:=th lm o (aY b);rw[ha.has hE lm]at c4;rw[hb.has hE lm]at c5;have hch:aE 103 [G m o, .sl [N a,N b], .sl [], .b true] (E 0):=by
  refine eW call103 func103 ?_;exact zu5 @c1 @c2 @c3 @c4 @c5
 refine eW call449 func449 ?_;exact z2 @hch @hm
theorem MQ {m:Bytes} (lm:m.length<=8) (lo:o.length<=8) {ng:Bool} (hE:gE m o=0) (hx:GP m o x) (he:aa e=true) (hz:(ng&&e==[])=false):aE 50 [G m o, .sl [N x], .sl [.agg [.b ng, .s e]]] (.tup [N (de (num m) x ng (num e)),E 0]):=by
 obtain⟨vm,vo,m1,-,-⟩:=jf hE;have hn:=eR lm;have lx:=hx.lt;have c1:=aT (aY x);rw[vN (show x<(2^64) by omega)]at c1
 have c2:=hO ng e;rw[he,hz]at c2;have c3:=kL lm lo;rw[hE]at c3;have c4:=th lm o (aY x);rw[hx.has hE lm]at c4;have hch:aE 103 [G m o, .sl [N x], .sl [.agg [.b ng, .s e]], .b true] (E 0):=by
  refine eW call103 func103 ?_;exact Y7 @c1 @c2 @c3 @c4
 have hbt:=wW he;have hbi:=fun i hi=>yd he i hi
 have hinv:=rJ (a:=x) (m:=num m) oO hn oO hx.SQ;have hil:=hx.unit.inv.1;clear c1 c2 c3 c4;unfold de;obtain⟨n,hnn⟩: ∃n,n=num e:=⟨_,rfl⟩;obtain⟨M,hM⟩: ∃M,M=num m:=⟨_,rfl⟩;have eG:G m o= .agg [N M, .s o]:=by rw[hM,show N (num m)= .s m from congrArg PV.s (iu vm)]
 rw[eG]at hch⊢;rw[<-hM]at lx hn m1 hinv hil;rw[<-hnn]at hbt hbi;rw[<-hnn,<-hM];clear hx;have hbl:c9 n<1000000:=by
  have h1:n<2^1024:=by
   rw[hnn];refine bE (cC e) ?_;have le:e.length<=128:=by simp[aa]at he;exact he.1
   exact fZ (dc oC le) (by decide+kernel)
  unfold c9;split
  ·decide
  ·rename_i h;have:=(xU h).2 h1;omega
 have hmx: ∀ _:True,(if(c9 n:Int)>0 then(c9 n:Int)else 0)=(c9 n:Int):=fun _=>by split<;>omega
 have hM1:1%M=1:=b9 oO;have hw1: ∀ _:True,IntKind.i64.wrap ((c9 n:Int)-1)=(c9 n:Int)-1:=fun _=>IntWalk.i64_in _ oO
 cases ng
 ·simp only[bu,aq];obtain⟨xm,hxm⟩: ∃xm,xm=x:=⟨_,rfl⟩;rw[<-hxm]at hch lx⊢;refine eW call50 func50 ?_;refine uE (aN @Ki (aN @Bn (aN @qy (aN @KV (aN (hmx oT) (aN (hw1 oT) @e9)))))) @hch @hbt @sO oT ?_;refine ai ?_;refine uE (aN @Ki (aN @Bn (aN @qy (aN @KV (aN (hmx oT) (aN (hw1 oT) @e9)))))) @hch @hbt @sO oT ?_;refine ai ?_;refine uE (aN @Ki (aN @Bn (aN @qy (aN @KV (aN (hmx oT) (aN (hw1 oT) @e9)))))) @hch @hbt @sO oT ?_;refine af (α:=Nat) (fun k=>k) (fun k=>⟨[(2, .v (.sl [.agg [.b false, .s e]])),(9, .rs 1017 0 0 1 1),(15, .p 1052 0 0),(16, .fn (.func 106) [] [.p 1052 0 0, .p 1000 0 0]),(17, .v (.i .i64 ((k:Int)-1)))],[(1052,⟨0,[.v (N (xm^(n/2^k)%M))],false,some 22⟩),(1017,⟨0,[.v (N xm)],false,none⟩),(1000,⟨0,[.v (N M), .v (.s o)],false,none⟩)],_⟩) (fun k=>k<=c9 n) (c9 n) (fun _=>aA _) (aA _) ?_ ?_
  ·(refine AS.Le.of (by first|decide|omega) ?_ ?_<;>simp[dC,dA,aP,ay,AV.bd,AV.bd.bdL,u8,ar,au,az])
   rw[SM,Nat.pow_zero,hM1]
  ·intro k hk R hR
   cases k with
   |zero=>
    refine wV ?_;rw[iW]
   |succ k=>
    obtain⟨z,hz⟩: ∃z,z=xm^(n/2^(k+1))%M:=⟨_,rfl⟩;have hzm:z<M:=by rw[hz];exact aL _ oO
    have e1: ∀ _:True,((k+1:Nat):Int)-1=(k:Int):=fun _=>oO
    have hge: ∀ _:True,decide ((k:Int)>=0)=true:=fun _=>by simp
    have hbit:=hbi k oO;have hdec:n.testBit k=decide (n/2^k%2=1):=lB;rw[hdec]at hbit;have hwk: ∀ _:True,IntKind.i64.wrap ((k:Int)-1)=(k:Int)-1:=fun _=>IntWalk.i64_in _ oO
    have hdd:n/2^(k+1)=n/2^k/2:=by rw[Nat.pow_succ,eS]
    have hzz:z*z%M<M:=aL _ oO;rw[<-hz];have hx1:=fun nm=>mJ 1052 1000 nm oC o (some 22) none (a:=z) (b:=z) (m:=M) oO oO oO oO
    have hx2:=fun nm=>mJ 1052 1000 nm oC o (some 22) none (a:=z*z%M) (b:=xm) (m:=M) oO oO oO oO
    repeat' first|simp only[go_sem,seval,e1 oT,hge oT,fY,eF,qy]|(refine cu (hx1 _) (by simp[ay]) ?_)|refine oE ?_|apply xX<;>intro hc
    refine ai ?_;repeat' first|simp only[go_sem,seval,hge oT,hwk oT,fY,eF,qy]|refine cP hbit ?_|(refine cu (hx2 _) (by simp[ay]) ?_)|(refine ai ?_)|refine oE ?_|apply xX<;>intro hc
    ·have hb2:n/2^k=2*(n/2^(k+1))+1:=oO;refine hR k oO oO _ ?_;have ez:z*z%M*xm%M=xm^(n/2^k)%M:=by
      have e3:z*z%M=xm^(n/2^(k+1))*xm^(n/2^(k+1))%M:=by rw[hz,<-du]
      rw[hb2,Nat.pow_succ,rm,cY,e3,jM]
     rw[<-ez];exact lE
    ·have hb2:n/2^k=2*(n/2^(k+1)):=oO;refine hR k oO oO _ ?_;have ez:z*z%M=xm^(n/2^k)%M:=by
      rw[hb2,rm,cY,hz,<-du]
     rw[<-ez];exact lE
 ·simp only[ax];obtain⟨xm,hxm⟩: ∃xm,xm=fR x M:=⟨_,rfl⟩;rw[<-hxm]at hinv hil⊢;refine eW call50 func50 ?_;refine uE (aN @Ki (aN @Bn (aN @qy (aN @KV (aN (hmx oT) (aN (hw1 oT) @e9)))))) @hch @hbt @sO @hinv ?_;refine ai ?_;refine uE (aN @Ki (aN @Bn (aN @qy (aN @KV (aN (hmx oT) (aN (hw1 oT) @e9)))))) @hch @hbt @sO @hinv ?_;refine ai ?_;refine uE (aN @Ki (aN @Bn (aN @qy (aN @KV (aN (hmx oT) (aN (hw1 oT) @e9)))))) @hch @hbt @sO @hinv ?_;refine af (α:=Nat) (fun k=>k) (fun k=>⟨[(2, .v (.sl [.agg [.b true, .s e]])),(9, .rs 1017 0 0 1 1),(15, .p 1068 0 0),(16, .fn (.func 106) [] [.p 1068 0 0, .p 1000 0 0]),(17, .v (.i .i64 ((k:Int)-1)))],[(1068,⟨0,[.v (N (xm^(n/2^k)%M))],false,some 22⟩),(1017,⟨0,[.v (N xm)],false,none⟩),(1000,⟨0,[.v (N M), .v (.s o)],false,none⟩)],_⟩) (fun k=>k<=c9 n) (c9 n) (fun _=>aA _) (aA _) ?_ ?_
  ·(refine AS.Le.of (by first|decide|omega) ?_ ?_<;>simp[dC,dA,aP,ay,AV.bd,AV.bd.bdL,u8,ar,au,az])
   rw[SM,Nat.pow_zero,hM1]
  ·intro k hk R hR
   cases k with
   |zero=>
    refine wV ?_;rw[iW]
   |succ k=>
    obtain⟨z,hz⟩: ∃z,z=xm^(n/2^(k+1))%M:=⟨_,rfl⟩;have hzm:z<M:=by rw[hz];exact aL _ oO
    have e1: ∀ _:True,((k+1:Nat):Int)-1=(k:Int):=fun _=>oO
    have hge: ∀ _:True,decide ((k:Int)>=0)=true:=fun _=>by simp
    have hbit:=hbi k oO;have hdec:n.testBit k=decide (n/2^k%2=1):=lB;rw[hdec]at hbit;have hwk: ∀ _:True,IntKind.i64.wrap ((k:Int)-1)=(k:Int)-1:=fun _=>IntWalk.i64_in _ oO
    have hdd:n/2^(k+1)=n/2^k/2:=by rw[Nat.pow_succ,eS]
    have hzz:z*z%M<M:=aL _ oO;rw[<-hz];have hx1:=fun nm=>mJ 1068 1000 nm oC o (some 22) none (a:=z) (b:=z) (m:=M) oO oO oO oO
    have hx2:=fun nm=>mJ 1068 1000 nm oC o (some 22) none (a:=z*z%M) (b:=xm) (m:=M) oO oO oO oO
    repeat' first|simp only[go_sem,seval,e1 oT,hge oT,fY,eF,qy]|(refine cu (hx1 _) (by simp[ay]) ?_)|refine oE ?_|apply xX<;>intro hc
    refine ai ?_;repeat' first|simp only[go_sem,seval,hge oT,hwk oT,fY,eF,qy]|refine cP hbit ?_|(refine cu (hx2 _) (by simp[ay]) ?_)|(refine ai ?_)|refine oE ?_|apply xX<;>intro hc
    ·have hb2:n/2^k=2*(n/2^(k+1))+1:=oO;refine hR k oO oO _ ?_;have ez:z*z%M*xm%M=xm^(n/2^k)%M:=by
      have e3:z*z%M=xm^(n/2^(k+1))*xm^(n/2^(k+1))%M:=by rw[hz,<-du]
      rw[hb2,Nat.pow_succ,rm,cY,e3,jM]
     rw[<-ez];exact lE
    ·have hb2:n/2^k=2*(n/2^(k+1)):=oO;refine hR k oO oO _ ?_;have ez:z*z%M=xm^(n/2^k)%M:=by
      rw[hb2,rm,cY,hz,<-du]
     rw[<-ez];exact lE
theorem lh {m:Bytes} (lm:m.length<=8) (lo:o.length<=8) {ng:Bool} (hE:gE m o=0) (hx:GP m o x) (he:aa e=true) (hz:(ng&&e==[])=false):aE 29 [G m o,N x, .agg [.b ng, .s e]] (.tup [N (de (num m) x ng (num e)),E 0]):=by
 have hp:=MQ lm lo hE hx he hz;refine eW call29 func29 ?_;exact z1 @hp
end Go.Proofs.Tryz
namespace Go.Proofs.Tryz
open Go Go.Dom Go.Num
structure eT where
 (base:Bytes) (var:Int) (neg:Bool) (abs:Bytes)
def eT.pv:eT->PV
 |⟨b,v,n,a⟩=> .agg [.s b, .i .i64 v, .b n, .s a]
structure dx where
 (mS:Int) (tgt:Bytes) (terms:List eT)
def dx.pv:dx->PV
 |⟨g,t,l⟩=> .agg [.i .i64 g, .s t, .sl (l.map eT.pv)]
def eB:Bytes×Bytes->PV
 |(m,o)=> .agg [.s m, .s o]
def cO (b:Bytes):PV:= .agg [.s b]
def cT:Bool×Bytes->PV
 |(n,a)=> .agg [.b n, .s a]
structure cU where
 (groups:List (Bytes×Bytes)) (vars:List Bytes) (eqs:List dx)
def cU.pv (s:cU):PV:= .agg [.sl (s.groups.map eB), .sl (s.vars.map cO), .sl (s.eqs.map dx.pv)]
def nf (z:Int):Bool×Bytes:=(zs z,zb z)
theorem Q5 (z:Int):cT (nf z)=Z z:=rfl
def Zp (z:Int):PV:=cT (nf z)
def cz (x:Bool×Bytes):Bool:=aa x.2&& !(x.1&&x.2==[])
def fp:eT:=⟨[],0,false,[]⟩
def hG:dx:=⟨0,[],[]⟩
def fj:Bytes×Bytes:=([],[])
def fU:Bool×Bytes:=(false,[])
structure WZ (s:cU):Prop where
 g: ∀p∈s.groups,gE p.1 p.2=0/\p.1.length<=8/\p.2.length<=8
 v: ∀b∈s.vars,aa b=true/\b≠[]/\b.length<=16
 q: ∀q∈s.eqs,0<=q.mS/\q.mS<s.groups.length/\jz (s.groups.getD q.mS.toNat fj).1 (s.groups.getD q.mS.toNat fj).2 q.tgt=true/\q.terms.length<=64/\
  ∀t∈q.terms,0<=t.var/\t.var<s.vars.length/\jz (s.groups.getD q.mS.toNat fj).1 (s.groups.getD q.mS.toNat fj).2 t.base=true/\cz (t.neg,t.abs)=true
 ng:s.groups.length<=8
 nv:s.vars.length<=64
 ne:s.eqs.length<=64
structure TZ (s:cU):Prop where
 g: ∀p∈s.groups,gE p.1 p.2=0/\p.1.length<=8/\p.2.length<=8
 q: ∀q∈s.eqs,0<=q.mS/\q.mS<s.groups.length/\jz (s.groups.getD q.mS.toNat fj).1 (s.groups.getD q.mS.toNat fj).2 q.tgt=true/\q.terms.length<=64/\
  ∀t∈q.terms,0<=t.var/\t.var<s.vars.length/\jz (s.groups.getD q.mS.toNat fj).1 (s.groups.getD q.mS.toNat fj).2 t.base=true/\cz (t.neg,t.abs)=true
 ng:s.groups.length<=8
 nv:s.vars.length<=64
 ne:s.eqs.length<=64
theorem WZ.m {s:cU} (h:WZ s):TZ s:=⟨h.g,h.q,h.ng,h.nv,h.ne⟩
theorem getD_map {α:Type} (f:α->PV) (l:List α) (d:α) {i:Nat} (h:i<l.length):(l.map f).getD i .fn0=f (l.getD i d):=by
 simp[br,h]
theorem aW {α:Type} {l:List α} {i:Nat} (d:α) (h:i<l.length):l.drop i=l.getD i d::l.drop (i+1):=by
 rw[jw h,br,bw h];rfl
theorem an {α:Type} {l:List α} {i:Nat} (d:α) (h:i<l.length):l.getD i d∈l:=by
 rw[br,bw h];exact ku h
theorem gO {m o x:Bytes} (hE:gE m o=0) (h:jz m o x=true):aa x=true:=((ct hE).1 h).1
theorem Au (l:List (Bool×Bytes)) (f:FuncId) (p:(Bool×Bytes)->Bool) (hl:l.length<4611686018427387904) (h: ∀x,aE f [cT x] (.b (p x))):aE 249 [.sl (l.map cT), .fn (.func f)] (E (eJ p 0 l)):=by
 have hlm:(l.map cT).length=l.length:=aC ..;refine eW call249 func249 ?_;refine dH @hlm ?_;refine af (α:=Nat) (fun i=>l.length-i) (fun i=>⟨[(0, .v (.sl (l.map cT))),(1, .v (.fn (.func f))),(7, .v (.i .i64 l.length)),(8, .v (.i .i64 (i:Nat)))],[],_⟩) (fun i=>i<=l.length/\eJ p i (l.drop i)=eJ p 0 l) 0 (fun _=>aA _) ⟨aI _,rfl⟩ ?_ ?_
 ·exact lE
 ·rintro i ⟨hi,hx⟩ R hR;rw[<-hx]
  by_cases hlt:i<l.length
  ·have e1:=getD_map cT l fU hlt;have hf:=h (l.getD i fU);have hgo:=hR (i+1);rw[<-hx,aW fU hlt]at hgo;rw[aW fU hlt];simp only[eJ]at hgo⊢;clear hx hR h;obtain⟨b,hb⟩: ∃b,b=p (l.getD i fU):=⟨_,rfl⟩;rw[<-hb]at hf hgo⊢;clear hb;obtain⟨x,hxx⟩: ∃x,x=l.getD i fU:=⟨_,rfl⟩;rw[<-hxx]at e1 hf;clear hxx;cases x;simp only[cT]at e1 hf;cases b
   ·have hgo:=hgo ⟨oO,rfl⟩ oO;exact gV (aN @hlm @e1) @hgo @hf
   ·exact m9 (aN @hlm @e1) @hf
  ·obtain rfl:i=l.length:=oO;rw[da];repeat' first|simp only[go_sem,seval,hlm]|refine oE ?_|apply xX<;>intro hc
   all_goals simp[eJ]
theorem gD (l:List (Bool×Bytes)) (f:FuncId) (p:(Bool×Bytes)->Bool) (hl:l.length<4611686018427387904) (h: ∀x,aE f [cT x] (.b (p x))):aE 139 [.sl (l.map cT), .fn (.func f)] (.b (l.any p)):=by
 have hi:=Au l f p hl h;have e:decide (eJ p 0 l>=0)=l.any p:=by
  rw[ew,decide_eq_true_iff];exact jh
 refine eW call139 func139 ?_;exact m9 @e @hi
theorem Ax (l:List dx) (f:FuncId) (p:dx->Bool) (hl:l.length<4611686018427387904) (h: ∀x,aE f [dx.pv x] (.b (p x))):aE 469 [.sl (l.map dx.pv), .fn (.func f)] (E (eJ p 0 l)):=by
 have hlm:(l.map dx.pv).length=l.length:=aC ..;refine eW call469 func469 ?_;refine dH @hlm ?_;refine af (α:=Nat) (fun i=>l.length-i) (fun i=>⟨[(0, .v (.sl (l.map dx.pv))),(1, .v (.fn (.func f))),(7, .v (.i .i64 l.length)),(8, .v (.i .i64 (i:Nat)))],[],_⟩) (fun i=>i<=l.length/\eJ p i (l.drop i)=eJ p 0 l) 0 (fun _=>aA _) ⟨aI _,rfl⟩ ?_ ?_
 ·exact lE
 ·rintro i ⟨hi,hx⟩ R hR;rw[<-hx]
  by_cases hlt:i<l.length
  ·have e1:=getD_map dx.pv l hG hlt;have hf:=h (l.getD i hG);have hgo:=hR (i+1);rw[<-hx,aW hG hlt]at hgo;rw[aW hG hlt];simp only[eJ]at hgo⊢;clear hx hR h;obtain⟨b,hb⟩: ∃b,b=p (l.getD i hG):=⟨_,rfl⟩;rw[<-hb]at hf hgo⊢;clear hb;obtain⟨x,hxx⟩: ∃x,x=l.getD i hG:=⟨_,rfl⟩;rw[<-hxx]at e1 hf;clear hxx;cases x;simp only[dx.pv]at e1 hf;cases b
   ·have hgo:=hgo ⟨oO,rfl⟩ oO;exact gV (aN @hlm @e1) @hgo @hf
   ·exact m9 (aN @hlm @e1) @hf
  ·obtain rfl:i=l.length:=oO;rw[da];repeat' first|simp only[go_sem,seval,hlm]|refine oE ?_|apply xX<;>intro hc
   all_goals simp[eJ]
theorem uI (l:List dx) (f:FuncId) (p:dx->Bool) (hl:l.length<4611686018427387904) (h: ∀x,aE f [dx.pv x] (.b (p x))):aE 436 [.sl (l.map dx.pv), .fn (.func f)] (.b (l.any p)):=by
 have hi:=Ax l f p hl h;have e:decide (eJ p 0 l>=0)=l.any p:=by
  rw[ew,decide_eq_true_iff];exact jh
 refine eW call436 func436 ?_;exact m9 @e @hi
theorem Ay (l:List eT) (f:FuncId) (c:List PV) (p:eT->Bool) (hl:l.length<4611686018427387904) (h: ∀x,aE f (x.pv::c) (.b (p x))):aE 470 [.sl (l.map eT.pv), .fc f [] c] (E (eJ p 0 l)):=by
 have hlm:(l.map eT.pv).length=l.length:=aC ..;refine eW call470 func470 ?_;refine dH @hlm ?_;refine af (α:=Nat) (fun i=>l.length-i) (fun i=>⟨[(0, .v (.sl (l.map eT.pv))),(1, .v (.fc f [] c)),(7, .v (.i .i64 l.length)),(8, .v (.i .i64 (i:Nat)))],[],_⟩) (fun i=>i<=l.length/\eJ p i (l.drop i)=eJ p 0 l) 0 (fun _=>aA _) ⟨aI _,rfl⟩ ?_ ?_
 ·exact lE
 ·rintro i ⟨hi,hx⟩ R hR;rw[<-hx]
  by_cases hlt:i<l.length
  ·have e1:=getD_map eT.pv l fp hlt;have hf:=h (l.getD i fp);have hgo:=hR (i+1);rw[<-hx,aW fp hlt]at hgo;rw[aW fp hlt];simp only[eJ]at hgo⊢;clear hx hR h;obtain⟨b,hb⟩: ∃b,b=p (l.getD i fp):=⟨_,rfl⟩;rw[<-hb]at hf hgo⊢;clear hb;obtain⟨x,hxx⟩: ∃x,x=l.getD i fp:=⟨_,rfl⟩;rw[<-hxx]at e1 hf;clear hxx;cases x;simp only[eT.pv]at e1 hf;cases b
   ·have hgo:=hgo ⟨oO,rfl⟩ oO;repeat' first|simp only[go_sem,seval,hlm,e1]|(refine jn hf (nM _ _) ?_)|refine oE ?_|apply xX<;>intro hc
    refine hgo _ ?_;exact lE
   ·repeat' first|simp only[go_sem,seval,hlm,e1]|(refine jn hf (nM _ _) ?_)|refine oE ?_|apply xX<;>intro hc
    all_goals rfl
  ·obtain rfl:i=l.length:=oO;rw[da];repeat' first|simp only[go_sem,seval,hlm]|refine oE ?_|apply xX<;>intro hc
   all_goals simp[eJ]
theorem uJ (l:List eT) (f:FuncId) (c:List PV) (p:eT->Bool) (hl:l.length<4611686018427387904) (h: ∀x,aE f (x.pv::c) (.b (p x))):aE 438 [.sl (l.map eT.pv), .fc f [] c] (.b (l.any p)):=by
 have hi:=Ay l f c p hl h;have e:decide (eJ p 0 l>=0)=l.any p:=by
  rw[ew,decide_eq_true_iff];exact jh
 refine eW call438 func438 ?_;exact m9 @e @hi
theorem Az (l:List Bytes) (f:FuncId) (p:Bytes->Bool) (hl:l.length<4611686018427387904) (h: ∀x,aE f [cO x] (.b (p x))):aE 443 [.sl (l.map cO), .fn (.func f)] (E (eJ p 0 l)):=by
 have hlm:(l.map cO).length=l.length:=aC ..;refine eW call443 func443 ?_;refine dH @hlm ?_;refine af (α:=Nat) (fun i=>l.length-i) (fun i=>⟨[(0, .v (.sl (l.map cO))),(1, .v (.fn (.func f))),(7, .v (.i .i64 l.length)),(8, .v (.i .i64 (i:Nat)))],[],_⟩) (fun i=>i<=l.length/\eJ p i (l.drop i)=eJ p 0 l) 0 (fun _=>aA _) ⟨aI _,rfl⟩ ?_ ?_
 ·exact lE
 ·rintro i ⟨hi,hx⟩ R hR;rw[<-hx]
  by_cases hlt:i<l.length
  ·have e1:=getD_map cO l [] hlt;have hf:=h (l.getD i []);have hgo:=hR (i+1);rw[<-hx,aW [] hlt]at hgo;rw[aW [] hlt];simp only[eJ]at hgo⊢;clear hx hR h;generalize p (l.getD i [])=b at*;generalize l.getD i []=x at*;simp only[cO]at e1 hf;cases b
   ·have hgo:=hgo ⟨oO,rfl⟩ oO;exact gV (aN @hlm @e1) @hgo @hf
   ·exact m9 (aN @hlm @e1) @hf
  ·obtain rfl:i=l.length:=oO;rw[da];repeat' first|simp only[go_sem,seval,hlm]|refine oE ?_|apply xX<;>intro hc
   all_goals simp[eJ]
theorem uK (l:List Bytes) (f:FuncId) (p:Bytes->Bool) (hl:l.length<4611686018427387904) (h: ∀x,aE f [cO x] (.b (p x))):aE 371 [.sl (l.map cO), .fn (.func f)] (.b (l.any p)):=by
 have hi:=Az l f p hl h;have e:decide (eJ p 0 l>=0)=l.any p:=by
  rw[ew,decide_eq_true_iff];exact jh
 refine eW call371 func371 ?_;exact m9 @e @hi
end Go.Proofs.Tryz
namespace Go.Proofs.Tryz
open Go Go.Dom Go.Num
variable {b c sl:Bytes}
theorem Rh (q:dx):aE 437 [q.pv] (.b (decide (64<q.terms.length))):=by
 obtain⟨g,t,l⟩:=q;have l4:(l.map eT.pv).length=l.length:=aC ..;have hd:decide ((l.length:Int)>64)=decide (64<l.length):=by rw[mD];omega
 unfold dx.pv;refine eW call437 func437 ?_;exact gi (aN @l4 @hd)
theorem Q8 {m:Bytes} (lm:m.length<=8) {o:Bytes} (lo:o.length<=8) (t:eT):aE 439 [t.pv, .pt (eB (m,o)) 0] (.b (!jb m o t.base)):=by
 obtain⟨b,v,n,a⟩:=t;have h:=yR lm lo b;simp only[eT.pv,eB];generalize jb m o b=z at*;refine eW call439 func439 ?_;exact z1 @h
theorem UZ (b:Bytes):aE 440 [cO b] (.b (b==[])):=by
 unfold cO;refine eW call440 func440 ?_;exact z0
def bM:List (Bytes×Bytes)->Bytes
 |[]=>[]
 |g::r=>if g.2=[]then bM r else g.2
theorem B1 (s:cU) (hl:s.groups.length<1000000):aE 255 [s.pv] (.s (bM s.groups)):=by
 obtain⟨gs,vs,es⟩:=s;simp only at hl;have l1:(gs.map eB).length=gs.length:=aC ..;unfold cU.pv;simp only;refine eW call255 func255 ?_;refine dH @l1 ?_;refine af (α:=Nat) (fun i=>gs.length-i) (fun i=>⟨[(1, .p 1000 0 0),(6, .v (.sl (gs.map eB))),(7,E' gs.length),(8,E' i)],[(1000,⟨0,[.v (.sl (gs.map eB)), .v (.sl (vs.map cO)), .v (.sl (es.map dx.pv))],false,none⟩)],_⟩) (fun i=>i<=gs.length/\bM (gs.drop i)=bM gs) 0 (fun _=>aA _) ⟨aI _,rfl⟩ ?_ ?_
 ·exact lE
 ·rintro i ⟨hi,hf⟩ R hR;rw[<-hf]
  by_cases hlt:i<gs.length
  ·have e1:=getD_map eB gs fj hlt;have hgo:=hR (i+1);rw[<-hf]at hgo;rw[aW fj hlt]at hgo⊢;obtain⟨x,hx⟩: ∃x,x=gs.getD i fj:=⟨_,rfl⟩;rw[<-hx]at e1 hgo⊢;clear hx hf hR;obtain⟨m,o⟩:=x;simp only[bM]at hgo⊢;simp only[eB]at e1
   by_cases ho:o=[]
   ·subst ho;simp only[ax]at hgo⊢;have hgo:=hgo ⟨oO,trivial⟩ oO;exact jN (aN @l1 (aN @e1 @nn)) @hgo
   ·have hb:(o==([]:Bytes))=false:=by simpa using ho
    rw[ae ho];exact gi (aN @l1 (aN @e1 @hb))
  ·obtain rfl:i=gs.length:=oO;rw[da];exact gi @l1
theorem OQ (h:b≠[]):aE 256 [cO b] (E 1):=by
 have hb:(b==([]:Bytes))=false:=by simpa using h
 unfold cO;refine eW call256 func256 ?_;exact gi @hb
structure sP (c sl:Bytes):Prop where
 vc:aa c=true
 vs:aa sl=true
 lc:c.length<=8
 ls:sl.length<=8
 c2:2<=num c
 s2:2<=num sl
def qk (c sl b:Bytes):Nat:=num sl*num c*num b
def Nq (c sl b:Bytes):Nat:=num sl*num c*num b-(num c-1)*(num b-1)
def XA (c sl b:Bytes):PV:= .agg [N (qk c sl b),N (Nq c sl b)]
theorem EY (h:b.length<=16):num b<dT:=bE (cC b) (dc oC h)
theorem xh (hr:sP c sl) (hb:b.length<=16):qk c sl b<dZ:=by
 have h1:num sl*num c<(2^64)*(2^64):=ga (eR hr.ls) (eR hr.lc);have h2:qk c sl b<(2^64)*(2^64)*dT:=ga h1 (EY hb);exact bE h2 (by unfold dZ dT;decide+kernel)
theorem Nr (hr:sP c sl):(num c-1)*(num b-1)<=qk c sl b:=by
 unfold qk;have h1:(num c-1)*(num b-1)<=num c*num b:=iP oO oO;have h2:num c*num b<=num sl*(num c*num b):=DR _ (by have:=hr.s2;omega)
 rw[cM];omega
theorem tT {q:Bytes} (hr:sP c sl) (vb:aa b=true) (hb:b≠[]) (lb:b.length<=16):aE 258 [.agg [.s c, .s sl, .s q], .s b] (.tup [XA c sl b,E 0]):=by
 have h64:=nR;have hw:=F6;have hML:=xh hr lb;have hle:=Nr (b:=b) hr;have hnc:=eR hr.lc;have hns:=eR hr.ls;have hnb:=qO (bJ vb) hb;have hb16:=EY lb;have e1:=eH hr.vc;have e2:=eH hr.vs;have e3:=eH vb;have m1:=Rl (a:=num sl) (b:=num c) (bE (ga hns hnc) (by unfold dZ;decide+kernel)) oO oO
 have m2:=Rl (a:=num sl*num c) (b:=num b) hML (bE (ga hns hnc) (by unfold dZ;decide+kernel)) (by have:=AY;omega)
 have s1:=wT (a:=num c) (b:=1) (by have:=hr.c2;omega) oO
 have s2:=wT (a:=num b) (b:=1) oO (by have:=AY;omega)
 have m3:=Rl (a:=num c-1) (b:=num b-1) oO oO (by have:=AY;omega)
 have s3:=wT (a:=num sl*num c*num b) (b:=(num c-1)*(num b-1)) hle hML;rw[e1,e2]at m1;rw[e3]at m2;rw[e1]at s1;rw[e3]at s2;have hP:XA c sl b= .agg [N (num sl*num c*num b),N (num sl*num c*num b-(num c-1)*(num b-1))]:=rfl;rw[hP];clear hML hle hP;generalize num sl*num c*num b=A at*;generalize num sl*num c=B at*;generalize A-(num c-1)*(num b-1)=C at*;generalize (num c-1)*(num b-1)=D at*;refine eW call258 func258 ?_;exact Jl @e9 @sO @m1 @m2 @s1 @s2 @m3 @s3
