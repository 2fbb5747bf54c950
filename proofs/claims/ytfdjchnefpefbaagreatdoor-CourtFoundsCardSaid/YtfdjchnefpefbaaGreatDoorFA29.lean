/-
  Part of the proof, part FA29. Own work.
-/
import Derived.Test.YtfdjchnefpefbaaGreatDoorFA27
set_option linter.all false
namespace Go.Dom
structure dV {α:Type} (f:α->PV) (z:Nat):Prop where
 len: ∀x,(f x).cells.length=z
 one: ∀x,∀y∈(f x).cells,y.one=true
 z1:z=1-> ∀x,(f x).cells=[f x]
 zn:z≠1-> ∀x,f x= .agg (f x).cells
def bO {α:Type} (f:α->PV) (l:List α):List AV:=(l.flatMap fun x=>(f x).cells).map AV.v
variable {α:Type} {f:α->PV} {z:Nat}
theorem dV.s:dV PV.s 1:=⟨fun _=>rfl,fun _ y hy=>by cases dr.1 hy;rfl,fun _ _=>rfl,fun h=>absurd rfl h⟩
theorem It (h:dV f z) (l:List α):(l.flatMap fun x=>(f x).cells).length=l.length*z:=by
 induction l with
 |nil=>simp
 |cons x l ih=>rw[dQ,bm,ih,h.len,List.length_cons,jU];omega
theorem de (h:dV f z) (l:List α):(bO f l).length=l.length*z:=by rw[bO,aE,It h]
theorem dK (h:dV f z) (l:List α):(bO f l).take (l.length*z)=bO f l:=cd (by rw[de h];exact an _)
theorem fk (h:dV f z) (l:List α):(bO f l).all AV.one=true:=by
 rw[bz];intro y hy;obtain⟨c,hc,rfl⟩:=bw.1 hy;obtain⟨x,-,hx⟩:=jq.1 hc;exact h.one x c hx
theorem e9 (hf:Nat->Option au) (k:Nat) (l:List α):aQ (view hf (k+1)) (bO f l)=some (l.flatMap fun x=>(f x).cells):=eJ _ _ _
theorem qF (hf:Nat->Option au) (k:Nat) (l:List α):(bO f l).flatMap (aL hf (k+1))=[]:=by
 unfold bO
 induction (l.flatMap fun x=>(f x).cells)with
 |nil=>rfl
 |cons x l ih=>simp_all[aL]
theorem dA (h:dV f z) (l:List α):chunk z l.length (l.flatMap fun x=>(f x).cells)=l.map f:=by
 induction l with
 |nil=>rfl
 |cons x l ih=>
  have hl:=h.len x;rw[List.length_cons,dQ,chunk,List.drop_left' hl,ih,aS];congr 1
  by_cases h1:z=1
  ·rw[if_pos h1,h.z1 h1 x];rfl
  ·rw[if_neg h1,List.take_left' hl];exact(h.zn h1 x).symm
theorem eu {l:List α} {c:AV} {n:Nat} (h:c∈bO f l):c.bd n=true:=by
 obtain⟨x,-,rfl⟩:=bw.1 h;rfl
theorem dh (l:List α) (x:α):bO f (l++[x])=bO f l++(f x).cells.map AV.v:=by
 simp[bO,sI]
theorem ud (h: ∀x,(f x).cells=[f x]) (l:List α) (d:α) {i:Nat} (hi:i<l.length):(bO f l).getD i .u= .v (f (l.getD i d)):=by
 have e:bO f l=l.map fun x=>AV.v (f x):=by
  unfold bO;clear hi
  induction l with
  |nil=>rfl
  |cons x l ih=>rw[dQ,h x,dD,ih];rfl
 rw[e];simp[aR,hi]
theorem JE (h:dV f z) {hf:Nat->Option au} {k n ver:Nat} {gr:Bool} {el:Option TypeId} {l:List α} {m:Nat} (hm:m=l.length) (hg:hf n=some ⟨ver,bO f l,gr,el⟩):view hf (k+2) (.rs n ver 0 m z)=some (.sl (l.map f)):=by
 subst hm;have h1:=de h l;have h2:=fk h l;have h3:=dK h l;simp[view,hg,h1,h2,h3,e9,dA h]
theorem F5 (h:dV f z) {hf:Nat->Option au} {k n ver:Nat} {gr:Bool} {el:Option TypeId} {l:List α} {m:Nat} (hm:m=l.length) (hg:hf n=some ⟨ver,bO f l,gr,el⟩):aL hf (k+2) (.rs n ver 0 m z)=[n]:=by
 subst hm;simp[aL,hg,dK h,qF]
theorem bu {α:Type} {l:List α} {i:Nat} (d:α) (h:i<l.length):l.take (i+1)=l.take i++[l.getD i d]:=by
 rw[List.take_succ,bJ h,aR,bJ h];rfl
theorem lV {α:Type} (l:List α) (p:α->Bool):(l.any fun x=> !p x)= !l.all p:=by
 induction l with
 |nil=>rfl
 |cons x l ih=>rw[List.any_cons,List.all_cons,ih];cases p x<;>simp
end Go.Dom
namespace Go.Proofs.YtfdjchnefpefbaaGreatDoor
open Go Go.Dom Go.Num
set_option maxRecDepth 100000
set_option maxHeartbeats 16000000
def gE (m o:Bytes):Int:=if !(aa m&&aa o)then 3 else if o==[]then(if ie m []then 0 else 13)else if num m<=1\/num o<=1\/(num m-1)%num o≠0 then 13 else 0
def jc (m o x:Bytes):Bool:=if o==[]then yp m [] x else lu m o x
def lj (m o x:Bytes):Bool:=decide (gE m o=0)&&jc m o x
structure GP (m o:Bytes) (n:Nat):Prop where
 lt:n<num m
 Ra:Nat.gcd n (num m)=1
 ord:o=[]\/n^num o%num m=1%num m
theorem kp {m o:Bytes} (h:gE m o=0):aa m=true/\aa o=true/\1<num m/\(o=[]->ie m []=true)/\(o≠[]->1<num o/\(num m-1)%num o=0):=by
 unfold gE at h
 split at h
 ·cases h
 ·rename_i h1;have h1:aa m=true/\aa o=true:=by simpa using h1
  split at h
  ·rename_i h2
   split at h
   ·rename_i h3;have h4:8<num m:=by simp only[ie,aY,decide_eq_true_eq]at h3;exact h3.2
    exact⟨h1.1,h1.2,by omega,fun _=>h3,fun g=>absurd (by simpa using h2) g⟩
   ·cases h
  ·rename_i h2
   split at h
   ·cases h
   ·rename_i h3;exact⟨h1.1,h1.2,by omega,fun g=>absurd g (by simpa using h2),fun _=>by omega⟩
theorem xt {x i m:Nat} (hm:1<m) (h:x*i%m=1%m):Nat.gcd x m=1:=by
 have h1:Nat.gcd x m∣x*i%m:=by
  have d1:Nat.gcd x m∣x*i:=Nat.dvd_trans (Cd x m) (Nat.dvd_mul_right x i);exact(Nat.dvd_mod_iff (B6 x m)).2 d1
 rw[h,aV hm]at h1;exact Nat.dvd_one.1 h1
theorem cL {m o x:Bytes} (h:gE m o=0):jc m o x=true↔aa x=true/\GP m o (num x):=by
 obtain⟨vm,vo,m1,hr,hp⟩:=kp h;unfold jc
 by_cases ho:o=[]
 ·subst ho;have hb:=hr rfl;simp only[beq_self_eq_true,if_true,yp,hb,aY,decide_eq_true_eq,fE,beq_eq_false_iff_ne,true_and];constructor
  ·rintro⟨⟨⟨h1,h2⟩,h3⟩,h4⟩;exact⟨h1,h3,h4, .inl rfl⟩
  ·rintro⟨h1,h3,h4,-⟩;refine⟨⟨⟨h1,?_⟩,h3⟩,h4⟩;intro e;subst e;simp[num]at h4;omega
 ·have hb:(o==([]:Bytes))=false:=by simpa using ho
  obtain⟨o1,od⟩:=hp ho;simp only[hb,aX,if_false,lu,vm,vo,aY,decide_eq_true_eq,fE,beq_eq_false_iff_ne,true_and,bZ,and_true];constructor
  ·rintro⟨⟨⟨h1,h2⟩,h3⟩,h4⟩;have:num x^num o=num x*num x^(num o-1):=by rw[<-vV];congr 1;omega
   rw[this]at h4;exact⟨h1,h3,xt m1 h4, .inr (by rw[this];exact h4)⟩
  ·rintro⟨h1,h3,h4,h5⟩;refine⟨⟨⟨h1,?_⟩,h3⟩,h5.resolve_left ho⟩;intro e;subst e;simp[num]at h4;omega
theorem Dg (a b:Nat):Nat.gcd (a%b) b=Nat.gcd a b:=by rw[<-kM,jT]
theorem GP.unit {m o:Bytes} {n:Nat} (h:GP m o n):dc (num m) n:=gF (by have:=h.lt;omega) h.Ra
theorem GP.mul {m o:Bytes} {a b:Nat} (ha:GP m o a) (hb:GP m o b):GP m o (a*b%num m):=by
 have h0:0<num m:=by have:=ha.lt;omega
 refine⟨aD _ h0,?_,?_⟩
 ·rw[Dg];exact Nat.Coprime.mul_left ha.Ra hb.Ra
 ·rcases ha.ord with h|h
  ·exact .inl h
  ·rcases hb.ord with g|g
   ·exact .inl g
   ·refine .inr ?_;rw[<-iM,pH,bM,h,g,<-bM,ia]
theorem GP.pow {m o:Bytes} {a:Nat} (ha:GP m o a) (e:Nat):GP m o (a^e%num m):=by
 have h0:0<num m:=by have:=ha.lt;omega
 refine⟨aD _ h0,?_,?_⟩
 ·rw[Dg];exact Nat.Coprime.pow_left e ha.Ra
 ·rcases ha.ord with h|h
  ·exact .inl h
  ·refine .inr ?_;rw[<-iM,<-jo,bc,jo,iM,h,<-iM,sD]
theorem GP.inv {m o:Bytes} {a:Nat} (ha:GP m o a) (m1:1<num m):GP m o (ew a (num m)):=by
 have h0:0<num m:=by omega
 obtain⟨g1,g2⟩:=ha.unit.inv;refine⟨g1,xt (i:=a) m1 (by rw[bc];exact g2),?_⟩
 rcases ha.ord with h|h
 ·exact .inl h
 ·refine .inr ?_;have e1:(a*ew a (num m))^num o%num m=1%num m:=by rw[iM,g2,<-iM,sD]
  rw[pH,bM,h,<-bM,ia]at e1;exact e1
theorem GP.cR {m o:Bytes} {a:Nat} (ha:GP m o a) (m1:1<num m) (ng:Bool) (e:Nat):GP m o (Dom.cR (num m) a ng e):=by
 unfold Dom.cR;cases ng
 ·exact ha.pow e
 ·exact(ha.inv m1).pow e
theorem GP.has {m o:Bytes} {n:Nat} (h:GP m o n) (hE:gE m o=0) (lm:m.length<=8):jc m o (aO n)=true:=by
 have:=dY lm;exact(cL hE).2 ⟨vN (by have:=h.lt;omega),by rw[aG];exact h⟩
theorem jz {m:Bytes} (lm:m.length<=8) {o:Bytes} (lo:o.length<=8):aA Tryz.prog 73 [G m o] (E (gE m o)):=by
 by_cases ho:o=[]
 ·subst ho;have:=Ft m;have e:gE m []=Uu m:=by
   unfold gE Uu;have hv0:aa []=true:=rfl
   cases aa m<;>simp[hv0]
  rw[e];exact this
 have hb:(o==([]:Bytes))=false:=by simpa using ho
 have v1:=aJ m;have v2:=aJ o;unfold gE
 by_cases hv:aa m=true/\aa o=true
 case neg=>
  have:(aa m&&aa o)=false:=by rw[eZ];intro g;simp at g;exact hv g
  rw[this];generalize aa m=b1 at*;generalize aa o=b2 at*;refine eW Tryz.call73 Tryz.func73 ?_;exact U1 @v1 @v2
 obtain⟨vm,vo⟩:=hv;have nm:=dY lm;have no:=dY lo;have hop:num o≠0:=fun e=>ho ((rI vo).1 e)
 rw[vm]at v1;rw[vo]at v2;rw[vm,vo,hb];have hs:=X7 (a:=num m) (b:=1) nm oC;have hcm:=kX o [2];rw[vo,show aa [2]=true from rfl,show num [2]=2 from rfl]at hcm
 simp only[db,if_true]at hcm;have hcl: ∀ _:True,decide (aU (num o) 2<0)=decide (num o<2):=fun _=>by
  rw[dE];simp[fX]
 have e1:N (num m)= .s m:=congrArg PV.s (fF vm);have e2:N (num o)= .s o:=congrArg PV.s (fF vo);rw[e1]at hs;generalize aU (num o) 2=cm at*
 by_cases m0:num m=0
 ·rw[if_neg oO,if_neg oO]at hs;have:(if num m<=1\/num o<=1\/(num m-1)%num o≠0 then(13:Int)else 0)=13:=if_pos oO
  simp only[db,bR,aX,if_false,this];refine eW Tryz.call73 Tryz.func73 ?_;simp only[go_sem,seval,ey];repeat' first|simp only[go_sem,seval,hb,ey]|refine cP v1 ?_|refine cP v2 ?_|refine cP qT ?_|refine cP hs ?_|refine sB ?_|apply xX<;>intro hc|refine⟨oD,?_⟩|exact oD|fail
  all_goals simp_all
 rw[if_pos oO,if_pos oO]at hs
 by_cases m1:num m=1
 ·have:(if num m<=1\/num o<=1\/(num m-1)%num o≠0 then(13:Int)else 0)=13:=if_pos oO
  simp only[db,bR,aX,if_false,this];rw[m1]at hs;refine eW Tryz.call73 Tryz.func73 ?_;simp only[go_sem,seval,ey];repeat' first|simp only[go_sem,seval,hb,ey,Fg]|refine cP v1 ?_|refine cP v2 ?_|refine cP qT ?_|refine cP hs ?_|refine sB ?_|apply xX<;>intro hc|refine⟨oD,?_⟩|exact oD|fail
  all_goals simp_all
 have en:=rG (n:=num m-1) oO;have hd:=qP (a:=num m-1) (b:=num o) oO no oO;rw[e2]at hd;have hz: ∀ _:True,(aO ((num m-1)%num o)==([]:Bytes))=decide ((num m-1)%num o=0):=fun _=>by
  rw[dE];simp[fW]
 by_cases o1:num o<2
 ·have:(if num m<=1\/num o<=1\/(num m-1)%num o≠0 then(13:Int)else 0)=13:=if_pos oO
  simp only[db,bR,aX,if_false,this];rw[decide_eq_true o1]at hcl;refine eW Tryz.call73 Tryz.func73 ?_;simp only[go_sem,seval,ey];repeat' first|simp only[go_sem,seval,hb,ey,en,hcl trivial]|refine cP v1 ?_|refine cP v2 ?_|refine cP qT ?_|refine cP Vv ?_|refine cP hs ?_|refine cP hcm ?_|refine sB ?_|apply xX<;>intro hc|refine⟨oD,?_⟩|exact oD|fail
  all_goals simp_all
 rw[decide_eq_false o1]at hcl
 by_cases hd0:(num m-1)%num o=0
 ·have:(if num m<=1\/num o<=1\/(num m-1)%num o≠0 then(13:Int)else 0)=0:=if_neg oO
  simp only[db,bR,aX,if_false,this];rw[hd0]at hd;refine eW Tryz.call73 Tryz.func73 ?_;simp only[go_sem,seval,ey];repeat' first|simp only[go_sem,seval,hb,ey,en,hcl trivial,Fg]|refine cP v1 ?_|refine cP v2 ?_|refine cP qT ?_|refine cP Vv ?_|refine cP hs ?_|refine cP hcm ?_|refine cP hd ?_|refine sB ?_|apply xX<;>intro hc|refine⟨oD,?_⟩|exact oD|fail
  all_goals simp_all
 ·have:(if num m<=1\/num o<=1\/(num m-1)%num o≠0 then(13:Int)else 0)=13:=if_pos oO
  simp only[db,bR,aX,if_false,this];have en2:=rG hd0;refine eW Tryz.call73 Tryz.func73 ?_;simp only[go_sem,seval,ey];repeat' first|simp only[go_sem,seval,hb,ey,en,hcl trivial,en2]|refine cP v1 ?_|refine cP v2 ?_|refine cP qT ?_|refine cP Vv ?_|refine cP hs ?_|refine cP hcm ?_|refine cP hd ?_|refine sB ?_|apply xX<;>intro hc|refine⟨oD,?_⟩|exact oD|fail
  all_goals simp_all
theorem ry {m:Bytes} (lm:m.length<=8) (o x:Bytes):aA Tryz.prog 158 [G m o, .s x] (.b (jc m o x)):=by
 by_cases ho:o=[]
 ·subst ho;exact My lm x
 ·have hb:(o==([]:Bytes))=false:=by simpa using ho
  have h:=Mm lm o x;unfold jc;rw[hb];simp only[aX,if_false];refine eW Tryz.call158 Tryz.func158 ?_;exact o7 @hb @h
theorem xr {m:Bytes} (lm:m.length<=8) {o:Bytes} (lo:o.length<=8) (x:Bytes):aA Tryz.prog 95 [G m o, .s x] (.b (lj m o x)):=by
 have h1:=jz lm lo;have h2:=ry lm o x;unfold lj;generalize gE m o=z at*;generalize jc m o x=b at*;refine eW Tryz.call95 Tryz.func95 ?_;exact U1 @h1 @h2
theorem GO {m:Bytes} (lm:m.length<=8) {o:Bytes} (lo:o.length<=8) {a b:Nat} (hE:gE m o=0) (ha:GP m o a) (hb:GP m o b):aA Tryz.prog 459 [G m o,N a,N b] (.tup [N (a*b%num m),E 0]):=by
 obtain⟨vm,vo,m1,-,-⟩:=kp hE;have hn:=dY lm;have la:=ha.lt;have lb:=hb.lt;have hm:=oJ (a:=a) (b:=b) (m:=num m) oO oO hn oO;have e1:N (num m)= .s m:=congrArg PV.s (fF vm);rw[e1]at hm;have c1:=aJ (aO a);have c2:=aJ (aO b);rw[vN (show a<18446744073709551616 by omega)]at c1
 rw[vN (show b<18446744073709551616 by omega)]at c2
 have c3:=jz lm lo;rw[hE]at c3;have c4:=ry lm o (aO a);have c5:=ry lm o (aO b);rw[ha.has hE lm]at c4;rw[hb.has hE lm]at c5;have hch:aA Tryz.prog 129 [G m o, .sl [N a,N b], .sl [], .b true] (E 0):=by
  refine eW Tryz.call129 Tryz.func129 ?_;exact zu5 @c1 @c2 @c3 @c4 @c5
 refine eW Tryz.call459 Tryz.func459 ?_;exact z2 @hch @hm
theorem Ln {m:Bytes} (lm:m.length<=8) {o:Bytes} (lo:o.length<=8) {x:Nat} {ng:Bool} {e:Bytes} (hE:gE m o=0) (hx:GP m o x) (he:aa e=true) (hz:(ng&&e==[])=false):aA Tryz.prog 61 [G m o, .sl [N x], .sl [.agg [.b ng, .s e]]] (.tup [N (cR (num m) x ng (num e)),E 0]):=by
 obtain⟨vm,vo,m1,-,-⟩:=kp hE;have hn:=dY lm;have lx:=hx.lt;have c1:=aJ (aO x);rw[vN (show x<18446744073709551616 by omega)]at c1
 have c2:=fP ng e;rw[he,hz]at c2;have c3:=jz lm lo;rw[hE]at c3;have c4:=ry lm o (aO x);rw[hx.has hE lm]at c4;have hch:aA Tryz.prog 129 [G m o, .sl [N x], .sl [.agg [.b ng, .s e]], .b true] (E 0):=by
  refine eW Tryz.call129 Tryz.func129 ?_;exact Zj @c1 @c2 @c3 @c4
 have hbt:=u5 he;have hbi:=fun i hi=>wD he i hi
 have hinv:=qh (a:=x) (m:=num m) oO hn oO hx.Ra;have hil:=hx.unit.inv.1;clear c1 c2 c3 c4;unfold cR;obtain⟨n,hnn⟩: ∃n,n=num e:=⟨_,rfl⟩;obtain⟨M,hM⟩: ∃M,M=num m:=⟨_,rfl⟩;have eG:G m o= .agg [N M, .s o]:=by rw[hM,show N (num m)= .s m from congrArg PV.s (fF vm)]
 rw[eG]at hch⊢;rw[<-hM]at lx hn m1 hinv hil;rw[<-hnn]at hbt hbi;rw[<-hnn,<-hM];clear hx;have hbl:b9 n<1000000:=by
  have h1:n<2^1024:=by
   rw[hnn];refine bj (cb e) ?_;have le:e.length<=128:=by simp[aa]at he;exact he.1
   exact ft (cI oC le) (by decide+kernel)
  unfold b9;split
  ·decide
  ·rename_i h;have:=(wj h).2 h1;omega
 have hmx: ∀ _:True,(if(b9 n:Int)>0 then(b9 n:Int)else 0)=(b9 n:Int):=fun _=>by split<;>omega
 have hM1:1%M=1:=aV oO;have hw1: ∀ _:True,IntKind.i64.wrap ((b9 n:Int)-1)=(b9 n:Int)-1:=fun _=>IntWalk.i64_in _ oO
 cases ng
 ·simp only[aX,if_false];obtain⟨xm,hxm⟩: ∃xm,xm=x:=⟨_,rfl⟩;rw[<-hxm]at hch lx⊢;refine eW Tryz.call61 Tryz.func61 ?_;repeat' first|simp only[go_sem,seval,fw,cA,IQ,zK,oZ,Jo,hmx trivial,hw1 trivial,ey]|refine cP hch ?_|refine cP hbt ?_|refine cP qT ?_|refine sB ?_|apply xX<;>intro hc|refine⟨oD,?_⟩|exact oD|fail
  refine ah ?_;repeat' first|simp only[go_sem,seval,fw,cA,IQ,zK,oZ,Jo,hmx trivial,hw1 trivial,ey]|refine cP hch ?_|refine cP hbt ?_|refine cP qT ?_|refine sB ?_|apply xX<;>intro hc|refine⟨oD,?_⟩|exact oD|fail
  refine ah ?_;repeat' first|simp only[go_sem,seval,fw,cA,IQ,zK,oZ,Jo,hmx trivial,hw1 trivial,ey]|refine cP hch ?_|refine cP hbt ?_|refine cP qT ?_|refine sB ?_|apply xX<;>intro hc|refine⟨oD,?_⟩|exact oD|fail
  refine af (α:=Nat) (fun k=>k) (fun k=>⟨[(2, .v (.sl [.agg [.b false, .s e]])),(9, .rs 1017 0 0 1 1),(15, .p 1052 0 0),(16, .fn (.func 132) [] [.p 1052 0 0, .p 1000 0 0]),(17, .v (.i .i64 ((k:Int)-1)))],[(1052,⟨0,[.v (N (xm^(n/2^k)%M))],false,some 22⟩),(1017,⟨0,[.v (N xm)],false,none⟩),(1000,⟨0,[.v (N M), .v (.s o)],false,none⟩)],_⟩) (fun k=>k<=b9 n) (b9 n) (fun _=>an _) (an _) ?_ ?_
  ·(refine AS.Le.of (by first|decide|omega) ?_ ?_<;>simp[dM,dL,aK,aj,AV.bd,AV.bd.bdL,u8,ai,ak,ar])
   rw[Q5,Nat.pow_zero,hM1]
  ·intro k hk R hR
   cases k with
   |zero=>
    refine wC ?_;rw[iS]
   |succ k=>
    obtain⟨z,hz⟩: ∃z,z=xm^(n/2^(k+1))%M:=⟨_,rfl⟩;have hzm:z<M:=by rw[hz];exact aD _ oO
    have e1: ∀ _:True,((k+1:Nat):Int)-1=(k:Int):=fun _=>by omega
    have hge: ∀ _:True,decide ((k:Int)>=0)=true:=fun _=>by simp
    have hbit:=hbi k oO;have hdec:n.testBit k=decide (n/2^k%2=1):=j6;rw[hdec]at hbit;have hwk: ∀ _:True,IntKind.i64.wrap ((k:Int)-1)=(k:Int)-1:=fun _=>IntWalk.i64_in _ oO
    have hdd:n/2^(k+1)=n/2^k/2:=by rw[Nat.pow_succ,eg]
    have hzz:z*z%M<M:=aD _ oO;rw[<-hz];have hx1:=fun nm=>kW 1052 1000 nm oC o (some 22) none (a:=z) (b:=z) (m:=M) oO oO oO oO
    have hx2:=fun nm=>kW 1052 1000 nm oC o (some 22) none (a:=z*z%M) (b:=xm) (m:=M) oO oO oO oO
    repeat' first|simp only[go_sem,seval,e1 trivial,hge trivial,fw,cA,oZ]|(refine bC (hx1 _) (by simp[aj]) ?_)|refine sB ?_|apply xX<;>intro hc|refine⟨oD,?_⟩|exact oD|fail
    refine ah ?_;repeat' first|simp only[go_sem,seval,hge trivial,hwk trivial,fw,cA,oZ]|refine cP hbit ?_|(refine bC (hx2 _) (by simp[aj]) ?_)|(refine ah ?_)|refine sB ?_|apply xX<;>intro hc|refine⟨oD,?_⟩|exact oD|fail
    ·have hb2:n/2^k=2*(n/2^(k+1))+1:=by omega
     refine hR k oO oO _ ?_;have ez:z*z%M*xm%M=xm^(n/2^k)%M:=by
      have e3:z*z%M=xm^(n/2^(k+1))*xm^(n/2^(k+1))%M:=by rw[hz,<-bM]
      rw[hb2,Nat.pow_succ,pB,ct,e3,gL]
     rw[<-ez];exact lE
    ·have hb2:n/2^k=2*(n/2^(k+1)):=by omega
     refine hR k oO oO _ ?_;have ez:z*z%M=xm^(n/2^k)%M:=by
      rw[hb2,pB,ct,hz,<-bM]
     rw[<-ez];exact lE
 ·simp only[if_true];obtain⟨xm,hxm⟩: ∃xm,xm=ew x M:=⟨_,rfl⟩;rw[<-hxm]at hinv hil⊢;refine eW Tryz.call61 Tryz.func61 ?_;repeat' first|simp only[go_sem,seval,fw,cA,IQ,zK,oZ,Jo,hmx trivial,hw1 trivial,ey]|refine cP hch ?_|refine cP hbt ?_|refine cP qT ?_|refine cP hinv ?_|refine sB ?_|apply xX<;>intro hc|refine⟨oD,?_⟩|exact oD|fail
  refine ah ?_;repeat' first|simp only[go_sem,seval,fw,cA,IQ,zK,oZ,Jo,hmx trivial,hw1 trivial,ey]|refine cP hch ?_|refine cP hbt ?_|refine cP qT ?_|refine cP hinv ?_|refine sB ?_|apply xX<;>intro hc|refine⟨oD,?_⟩|exact oD|fail
  refine ah ?_;repeat' first|simp only[go_sem,seval,fw,cA,IQ,zK,oZ,Jo,hmx trivial,hw1 trivial,ey]|refine cP hch ?_|refine cP hbt ?_|refine cP qT ?_|refine cP hinv ?_|refine sB ?_|apply xX<;>intro hc|refine⟨oD,?_⟩|exact oD|fail
  refine af (α:=Nat) (fun k=>k) (fun k=>⟨[(2, .v (.sl [.agg [.b true, .s e]])),(9, .rs 1017 0 0 1 1),(15, .p 1068 0 0),(16, .fn (.func 132) [] [.p 1068 0 0, .p 1000 0 0]),(17, .v (.i .i64 ((k:Int)-1)))],[(1068,⟨0,[.v (N (xm^(n/2^k)%M))],false,some 22⟩),(1017,⟨0,[.v (N xm)],false,none⟩),(1000,⟨0,[.v (N M), .v (.s o)],false,none⟩)],_⟩) (fun k=>k<=b9 n) (b9 n) (fun _=>an _) (an _) ?_ ?_
  ·(refine AS.Le.of (by first|decide|omega) ?_ ?_<;>simp[dM,dL,aK,aj,AV.bd,AV.bd.bdL,u8,ai,ak,ar])
   rw[Q5,Nat.pow_zero,hM1]
  ·intro k hk R hR
   cases k with
   |zero=>
    refine wC ?_;rw[iS]
   |succ k=>
    obtain⟨z,hz⟩: ∃z,z=xm^(n/2^(k+1))%M:=⟨_,rfl⟩;have hzm:z<M:=by rw[hz];exact aD _ oO
    have e1: ∀ _:True,((k+1:Nat):Int)-1=(k:Int):=fun _=>by omega
    have hge: ∀ _:True,decide ((k:Int)>=0)=true:=fun _=>by simp
    have hbit:=hbi k oO;have hdec:n.testBit k=decide (n/2^k%2=1):=j6;rw[hdec]at hbit;have hwk: ∀ _:True,IntKind.i64.wrap ((k:Int)-1)=(k:Int)-1:=fun _=>IntWalk.i64_in _ oO
    have hdd:n/2^(k+1)=n/2^k/2:=by rw[Nat.pow_succ,eg]
    have hzz:z*z%M<M:=aD _ oO;rw[<-hz];have hx1:=fun nm=>kW 1068 1000 nm oC o (some 22) none (a:=z) (b:=z) (m:=M) oO oO oO oO
    have hx2:=fun nm=>kW 1068 1000 nm oC o (some 22) none (a:=z*z%M) (b:=xm) (m:=M) oO oO oO oO
    repeat' first|simp only[go_sem,seval,e1 trivial,hge trivial,fw,cA,oZ]|(refine bC (hx1 _) (by simp[aj]) ?_)|refine sB ?_|apply xX<;>intro hc|refine⟨oD,?_⟩|exact oD|fail
    refine ah ?_;repeat' first|simp only[go_sem,seval,hge trivial,hwk trivial,fw,cA,oZ]|refine cP hbit ?_|(refine bC (hx2 _) (by simp[aj]) ?_)|(refine ah ?_)|refine sB ?_|apply xX<;>intro hc|refine⟨oD,?_⟩|exact oD|fail
    ·have hb2:n/2^k=2*(n/2^(k+1))+1:=by omega
     refine hR k oO oO _ ?_;have ez:z*z%M*xm%M=xm^(n/2^k)%M:=by
      have e3:z*z%M=xm^(n/2^(k+1))*xm^(n/2^(k+1))%M:=by rw[hz,<-bM]
      rw[hb2,Nat.pow_succ,pB,ct,e3,gL]
     rw[<-ez];exact lE
    ·have hb2:n/2^k=2*(n/2^(k+1)):=by omega
     refine hR k oO oO _ ?_;have ez:z*z%M=xm^(n/2^k)%M:=by
      rw[hb2,pB,ct,hz,<-bM]
     rw[<-ez];exact lE
theorem jX {m:Bytes} (lm:m.length<=8) {o:Bytes} (lo:o.length<=8) {x:Nat} {ng:Bool} {e:Bytes} (hE:gE m o=0) (hx:GP m o x) (he:aa e=true) (hz:(ng&&e==[])=false):aA Tryz.prog 34 [G m o,N x, .agg [.b ng, .s e]] (.tup [N (cR (num m) x ng (num e)),E 0]):=by
 have hp:=Ln lm lo hE hx he hz;refine eW Tryz.call34 Tryz.func34 ?_;exact z1 @hp
end Go.Proofs.YtfdjchnefpefbaaGreatDoor
namespace Go.Proofs.YtfdjchnefpefbaaGreatDoor
open Go Go.Dom Go.Num
set_option maxRecDepth 100000
set_option maxHeartbeats 8000000
structure fV where
 (base:Bytes) (var:Int) (neg:Bool) (abs:Bytes)
def fV.pv:fV->PV
 |⟨b,v,n,a⟩=> .agg [.s b, .i .i64 v, .b n, .s a]
structure eH where
 (me:Int) (tgt:Bytes) (terms:List fV)
def eH.pv:eH->PV
 |⟨g,t,l⟩=> .agg [.i .i64 g, .s t, .sl (l.map fV.pv)]
def gO:Bytes×Bytes->PV
 |(m,o)=> .agg [.s m, .s o]
def dO (b:Bytes):PV:= .agg [.s b]
def eC:Bool×Bytes->PV
 |(n,a)=> .agg [.b n, .s a]
structure dJ where
 (groups:List (Bytes×Bytes)) (vars:List Bytes) (eqs:List eH)
def dJ.pv (s:dJ):PV:= .agg [.sl (s.groups.map gO), .sl (s.vars.map dO), .sl (s.eqs.map eH.pv)]
def lO (z:Int):Bool×Bytes:=(zs z,zb z)
theorem Pw (z:Int):eC (lO z)=Z z:=rfl
def Zp (z:Int):PV:=eC (lO z)
def c9 (x:Bool×Bytes):Bool:=aa x.2&& !(x.1&&x.2==[])
def kB:fV:=⟨[],0,false,[]⟩
def kF:eH:=⟨0,[],[]⟩
def gY:Bytes×Bytes:=([],[])
def lK:Bool×Bytes:=(false,[])
structure Vz (s:dJ):Prop where
 g: ∀p∈s.groups,gE p.1 p.2=0/\p.1.length<=8/\p.2.length<=8
 v: ∀b∈s.vars,aa b=true/\b≠[]/\b.length<=16
 q: ∀q∈s.eqs,0<=q.me/\q.me<s.groups.length/\jc (s.groups.getD q.me.toNat gY).1 (s.groups.getD q.me.toNat gY).2 q.tgt=true/\q.terms.length<=64/\
  ∀t∈q.terms,0<=t.var/\t.var<s.vars.length/\jc (s.groups.getD q.me.toNat gY).1 (s.groups.getD q.me.toNat gY).2 t.base=true/\c9 (t.neg,t.abs)=true
 ng:s.groups.length<=8
 nv:s.vars.length<=64
 ne:s.eqs.length<=64
structure X6 (s:dJ):Prop where
 g: ∀p∈s.groups,gE p.1 p.2=0/\p.1.length<=8/\p.2.length<=8
 q: ∀q∈s.eqs,0<=q.me/\q.me<s.groups.length/\jc (s.groups.getD q.me.toNat gY).1 (s.groups.getD q.me.toNat gY).2 q.tgt=true/\q.terms.length<=64/\
  ∀t∈q.terms,0<=t.var/\t.var<s.vars.length/\jc (s.groups.getD q.me.toNat gY).1 (s.groups.getD q.me.toNat gY).2 t.base=true/\c9 (t.neg,t.abs)=true
 ng:s.groups.length<=8
 nv:s.vars.length<=64
 ne:s.eqs.length<=64
theorem Vz.m {s:dJ} (h:Vz s):X6 s:=⟨h.g,h.q,h.ng,h.nv,h.ne⟩
theorem getD_map {α:Type} (f:α->PV) (l:List α) (d:α) {i:Nat} (h:i<l.length):(l.map f).getD i .fn0=f (l.getD i d):=by
 simp[aR,h]
theorem aT {α:Type} {l:List α} {i:Nat} (d:α) (h:i<l.length):l.drop i=l.getD i d::l.drop (i+1):=by
 rw[iq h,aR,bJ h];rfl
theorem az {α:Type} {l:List α} {i:Nat} (d:α) (h:i<l.length):l.getD i d∈l:=by
 rw[aR,bJ h];exact iR h
theorem qu {m o x:Bytes} (hE:gE m o=0) (h:jc m o x=true):aa x=true:=((cL hE).1 h).1
theorem yT (l:List (Bool×Bytes)) (f:FuncId) (p:(Bool×Bytes)->Bool) (hl:l.length<4611686018427387904) (h: ∀x,aA Tryz.prog f [eC x] (.b (p x))):aA Tryz.prog 274 [.sl (l.map eC), .fn (.func f)] (E (dN p 0 l)):=by
 have hlm:(l.map eC).length=l.length:=aE ..;refine eW Tryz.call274 Tryz.func274 ?_;refine eF @hlm ?_;refine af (α:=Nat) (fun i=>l.length-i) (fun i=>⟨[(0, .v (.sl (l.map eC))),(1, .v (.fn (.func f))),(7, .v (.i .i64 l.length)),(8, .v (.i .i64 (i:Nat)))],[],_⟩) (fun i=>i<=l.length/\dN p i (l.drop i)=dN p 0 l) 0 (fun _=>an _) ⟨aH _,rfl⟩ ?_ ?_
 ·exact lE
 ·rintro i ⟨hi,hx⟩ R hR;rw[<-hx]
  by_cases hlt:i<l.length
  ·have e1:=getD_map eC l lK hlt;have hf:=h (l.getD i lK);have hgo:=hR (i+1);rw[<-hx,aT lK hlt]at hgo;rw[aT lK hlt];simp only[dN]at hgo⊢;clear hx hR h;obtain⟨b,hb⟩: ∃b,b=p (l.getD i lK):=⟨_,rfl⟩;rw[<-hb]at hf hgo⊢;clear hb;obtain⟨x,hxx⟩: ∃x,x=l.getD i lK:=⟨_,rfl⟩;rw[<-hxx]at e1 hf;clear hxx;cases x;simp only[eC]at e1 hf;cases b
   ·have hgo:=hgo ⟨by omega,rfl⟩ oO
    exact kR (aN @hlm @e1) @hgo @hf
   ·exact o7 (aN @hlm @e1) @hf
  ·obtain rfl:i=l.length:=by omega
   rw[cX];repeat' first|simp only[go_sem,seval,hlm]|refine sB ?_|apply xX<;>intro hc|refine⟨oD,?_⟩|exact oD|fail
   all_goals simp[dN]
theorem fz (l:List (Bool×Bytes)) (f:FuncId) (p:(Bool×Bytes)->Bool) (hl:l.length<4611686018427387904) (h: ∀x,aA Tryz.prog f [eC x] (.b (p x))):aA Tryz.prog 165 [.sl (l.map eC), .fn (.func f)] (.b (l.any p)):=by
 have hi:=yT l f p hl h;have e:decide (dN p 0 l>=0)=l.any p:=by
  rw[dE,decide_eq_true_iff];exact ig
 refine eW Tryz.call165 Tryz.func165 ?_;exact o7 @e @hi
theorem yW (l:List eH) (f:FuncId) (p:eH->Bool) (hl:l.length<4611686018427387904) (h: ∀x,aA Tryz.prog f [eH.pv x] (.b (p x))):aA Tryz.prog 477 [.sl (l.map eH.pv), .fn (.func f)] (E (dN p 0 l)):=by
 have hlm:(l.map eH.pv).length=l.length:=aE ..;refine eW Tryz.call477 Tryz.func477 ?_;refine eF @hlm ?_;refine af (α:=Nat) (fun i=>l.length-i) (fun i=>⟨[(0, .v (.sl (l.map eH.pv))),(1, .v (.fn (.func f))),(7, .v (.i .i64 l.length)),(8, .v (.i .i64 (i:Nat)))],[],_⟩) (fun i=>i<=l.length/\dN p i (l.drop i)=dN p 0 l) 0 (fun _=>an _) ⟨aH _,rfl⟩ ?_ ?_
 ·exact lE
 ·rintro i ⟨hi,hx⟩ R hR;rw[<-hx]
  by_cases hlt:i<l.length
  ·have e1:=getD_map eH.pv l kF hlt;have hf:=h (l.getD i kF);have hgo:=hR (i+1);rw[<-hx,aT kF hlt]at hgo;rw[aT kF hlt];simp only[dN]at hgo⊢;clear hx hR h;obtain⟨b,hb⟩: ∃b,b=p (l.getD i kF):=⟨_,rfl⟩;rw[<-hb]at hf hgo⊢;clear hb;obtain⟨x,hxx⟩: ∃x,x=l.getD i kF:=⟨_,rfl⟩;rw[<-hxx]at e1 hf;clear hxx;cases x;simp only[eH.pv]at e1 hf;cases b
   ·have hgo:=hgo ⟨by omega,rfl⟩ oO
    exact kR (aN @hlm @e1) @hgo @hf
   ·exact o7 (aN @hlm @e1) @hf
  ·obtain rfl:i=l.length:=by omega
   rw[cX];repeat' first|simp only[go_sem,seval,hlm]|refine sB ?_|apply xX<;>intro hc|refine⟨oD,?_⟩|exact oD|fail
   all_goals simp[dN]
theorem sX (l:List eH) (f:FuncId) (p:eH->Bool) (hl:l.length<4611686018427387904) (h: ∀x,aA Tryz.prog f [eH.pv x] (.b (p x))):aA Tryz.prog 446 [.sl (l.map eH.pv), .fn (.func f)] (.b (l.any p)):=by
 have hi:=yW l f p hl h;have e:decide (dN p 0 l>=0)=l.any p:=by
  rw[dE,decide_eq_true_iff];exact ig
 refine eW Tryz.call446 Tryz.func446 ?_;exact o7 @e @hi
theorem yX (l:List fV) (f:FuncId) (c:List PV) (p:fV->Bool) (hl:l.length<4611686018427387904) (h: ∀x,aA Tryz.prog f (x.pv::c) (.b (p x))):aA Tryz.prog 478 [.sl (l.map fV.pv), .fc f [] c] (E (dN p 0 l)):=by
 have hlm:(l.map fV.pv).length=l.length:=aE ..;refine eW Tryz.call478 Tryz.func478 ?_;refine eF @hlm ?_;refine af (α:=Nat) (fun i=>l.length-i) (fun i=>⟨[(0, .v (.sl (l.map fV.pv))),(1, .v (.fc f [] c)),(7, .v (.i .i64 l.length)),(8, .v (.i .i64 (i:Nat)))],[],_⟩) (fun i=>i<=l.length/\dN p i (l.drop i)=dN p 0 l) 0 (fun _=>an _) ⟨aH _,rfl⟩ ?_ ?_
 ·exact lE
 ·rintro i ⟨hi,hx⟩ R hR;rw[<-hx]
  by_cases hlt:i<l.length
  ·have e1:=getD_map fV.pv l kB hlt;have hf:=h (l.getD i kB);have hgo:=hR (i+1);rw[<-hx,aT kB hlt]at hgo;rw[aT kB hlt];simp only[dN]at hgo⊢;clear hx hR h;obtain⟨b,hb⟩: ∃b,b=p (l.getD i kB):=⟨_,rfl⟩;rw[<-hb]at hf hgo⊢;clear hb;obtain⟨x,hxx⟩: ∃x,x=l.getD i kB:=⟨_,rfl⟩;rw[<-hxx]at e1 hf;clear hxx;cases x;simp only[fV.pv]at e1 hf;cases b
   ·have hgo:=hgo ⟨by omega,rfl⟩ oO
    repeat' first|simp only[go_sem,seval,hlm,e1]|(refine il hf (ml _ _) ?_)|refine sB ?_|apply xX<;>intro hc|refine⟨oD,?_⟩|exact oD|fail
    refine hgo _ ?_;exact lE
   ·repeat' first|simp only[go_sem,seval,hlm,e1]|(refine il hf (ml _ _) ?_)|refine sB ?_|apply xX<;>intro hc|refine⟨oD,?_⟩|exact oD|fail
    all_goals rfl
  ·obtain rfl:i=l.length:=by omega
   rw[cX];repeat' first|simp only[go_sem,seval,hlm]|refine sB ?_|apply xX<;>intro hc|refine⟨oD,?_⟩|exact oD|fail
   all_goals simp[dN]
theorem sY (l:List fV) (f:FuncId) (c:List PV) (p:fV->Bool) (hl:l.length<4611686018427387904) (h: ∀x,aA Tryz.prog f (x.pv::c) (.b (p x))):aA Tryz.prog 448 [.sl (l.map fV.pv), .fc f [] c] (.b (l.any p)):=by
 have hi:=yX l f c p hl h;have e:decide (dN p 0 l>=0)=l.any p:=by
  rw[dE,decide_eq_true_iff];exact ig
 refine eW Tryz.call448 Tryz.func448 ?_;exact o7 @e @hi
theorem yY (l:List Bytes) (f:FuncId) (p:Bytes->Bool) (hl:l.length<4611686018427387904) (h: ∀x,aA Tryz.prog f [dO x] (.b (p x))):aA Tryz.prog 453 [.sl (l.map dO), .fn (.func f)] (E (dN p 0 l)):=by
 have hlm:(l.map dO).length=l.length:=aE ..;refine eW Tryz.call453 Tryz.func453 ?_;refine eF @hlm ?_;refine af (α:=Nat) (fun i=>l.length-i) (fun i=>⟨[(0, .v (.sl (l.map dO))),(1, .v (.fn (.func f))),(7, .v (.i .i64 l.length)),(8, .v (.i .i64 (i:Nat)))],[],_⟩) (fun i=>i<=l.length/\dN p i (l.drop i)=dN p 0 l) 0 (fun _=>an _) ⟨aH _,rfl⟩ ?_ ?_
 ·exact lE
 ·rintro i ⟨hi,hx⟩ R hR;rw[<-hx]
  by_cases hlt:i<l.length
  ·have e1:=getD_map dO l [] hlt;have hf:=h (l.getD i []);have hgo:=hR (i+1);rw[<-hx,aT [] hlt]at hgo;rw[aT [] hlt];simp only[dN]at hgo⊢;clear hx hR h;generalize p (l.getD i [])=b at*;generalize l.getD i []=x at*;simp only[dO]at e1 hf;cases b
   ·have hgo:=hgo ⟨by omega,rfl⟩ oO
    exact kR (aN @hlm @e1) @hgo @hf
   ·exact o7 (aN @hlm @e1) @hf
  ·obtain rfl:i=l.length:=by omega
   rw[cX];repeat' first|simp only[go_sem,seval,hlm]|refine sB ?_|apply xX<;>intro hc|refine⟨oD,?_⟩|exact oD|fail
   all_goals simp[dN]
theorem sZ (l:List Bytes) (f:FuncId) (p:Bytes->Bool) (hl:l.length<4611686018427387904) (h: ∀x,aA Tryz.prog f [dO x] (.b (p x))):aA Tryz.prog 385 [.sl (l.map dO), .fn (.func f)] (.b (l.any p)):=by
 have hi:=yY l f p hl h;have e:decide (dN p 0 l>=0)=l.any p:=by
  rw[dE,decide_eq_true_iff];exact ig
 refine eW Tryz.call385 Tryz.func385 ?_;exact o7 @e @hi
end Go.Proofs.YtfdjchnefpefbaaGreatDoor
namespace Go.Proofs.YtfdjchnefpefbaaGreatDoor
open Go Go.Dom Go.Num
set_option maxRecDepth 100000
set_option maxHeartbeats 16000000
theorem PI (q:eH):aA Tryz.prog 447 [q.pv] (.b (decide (64<q.terms.length))):=by
 obtain⟨g,t,l⟩:=q;have l4:(l.map fV.pv).length=l.length:=aE ..;have hd:decide ((l.length:Int)>64)=decide (64<l.length):=by rw[decide_eq_decide];omega
 unfold eH.pv;refine eW Tryz.call447 Tryz.func447 ?_;exact lQ (aN @l4 @hd)
theorem PA {m:Bytes} (lm:m.length<=8) {o:Bytes} (lo:o.length<=8) (t:fV):aA Tryz.prog 449 [t.pv, .pt (gO (m,o)) 0] (.b (!lj m o t.base)):=by
 obtain⟨b,v,n,a⟩:=t;have h:=xr lm lo b;simp only[fV.pv,gO];generalize lj m o b=z at*;refine eW Tryz.call449 Tryz.func449 ?_;exact z1 @h
theorem Ty (b:Bytes):aA Tryz.prog 450 [dO b] (.b (b==[])):=by
 unfold dO;refine eW Tryz.call450 Tryz.func450 ?_;exact z0
def bT:List (Bytes×Bytes)->Bytes
 |[]=>[]
 |g::r=>if g.2=[]then bT r else g.2
theorem Ap (s:dJ) (hl:s.groups.length<1000000):aA Tryz.prog 280 [s.pv] (.s (bT s.groups)):=by
 obtain⟨gs,vs,es⟩:=s;simp only at hl;have l1:(gs.map gO).length=gs.length:=aE ..;unfold dJ.pv;simp only;refine eW Tryz.call280 Tryz.func280 ?_;refine eF @l1 ?_;refine af (α:=Nat) (fun i=>gs.length-i) (fun i=>⟨[(1, .p 1000 0 0),(6, .v (.sl (gs.map gO))),(7,E' gs.length),(8,E' i)],[(1000,⟨0,[.v (.sl (gs.map gO)), .v (.sl (vs.map dO)), .v (.sl (es.map eH.pv))],false,none⟩)],_⟩) (fun i=>i<=gs.length/\bT (gs.drop i)=bT gs) 0 (fun _=>an _) ⟨aH _,rfl⟩ ?_ ?_
 ·exact lE
 ·rintro i ⟨hi,hf⟩ R hR;rw[<-hf]
  by_cases hlt:i<gs.length
  ·have e1:=getD_map gO gs gY hlt;have hgo:=hR (i+1);rw[<-hf]at hgo;rw[aT gY hlt]at hgo⊢;obtain⟨x,hx⟩: ∃x,x=gs.getD i gY:=⟨_,rfl⟩;rw[<-hx]at e1 hgo⊢;clear hx hf hR;obtain⟨m,o⟩:=x;simp only[bT]at hgo⊢;simp only[gO]at e1
   by_cases ho:o=[]
   ·subst ho;simp only[if_true]at hgo⊢;have hgo:=hgo ⟨by omega,trivial⟩ oO
    repeat' first|simp only[go_sem,seval,l1,e1,nn]|refine sB ?_|apply xX<;>intro hc|refine⟨oD,?_⟩|exact oD|fail
    refine hgo _ ?_;exact lE
   ·have hb:(o==([]:Bytes))=false:=by simpa using ho
    rw[if_neg ho];exact lQ (aN @l1 (aN @e1 @hb))
  ·obtain rfl:i=gs.length:=by omega
   rw[cX];exact lQ @l1
theorem Nn {b:Bytes} (h:b≠[]):aA Tryz.prog 281 [dO b] (E 1):=by
 have hb:(b==([]:Bytes))=false:=by simpa using h
 unfold dO;refine eW Tryz.call281 Tryz.func281 ?_;exact lQ @hb
structure qU (c sl:Bytes):Prop where
 vc:aa c=true
 vs:aa sl=true
 lc:c.length<=8
 ls:sl.length<=8
 c2:2<=num c
 s2:2<=num sl
def xI (c sl b:Bytes):Nat:=num sl*num c*num b
def Tu (c sl b:Bytes):Nat:=num sl*num c*num b-(num c-1)*(num b-1)
def V7 (c sl b:Bytes):PV:= .agg [N (xI c sl b),N (Tu c sl b)]
theorem Hb {b:Bytes} (h:b.length<=16):num b<cZ:=bj (cb b) (cI oC h)
theorem Bl {c sl b:Bytes} (hr:qU c sl) (hb:b.length<=16):xI c sl b<dw:=by
 have h1:num sl*num c<18446744073709551616*18446744073709551616:=fR (dY hr.ls) (dY hr.lc);have h2:xI c sl b<18446744073709551616*18446744073709551616*cZ:=fR h1 (Hb hb);exact bj h2 (by unfold dw cZ;decide+kernel)
theorem Tv {c sl b:Bytes} (hr:qU c sl):(num c-1)*(num b-1)<=xI c sl b:=by
 unfold xI;have h1:(num c-1)*(num b-1)<=num c*num b:=jP oO oO;have h2:num c*num b<=num sl*(num c*num b):=CB _ (by have:=hr.s2;omega)
 rw[bQ];omega
theorem rZ {c sl q b:Bytes} (hr:qU c sl) (vb:aa b=true) (hb:b≠[]) (lb:b.length<=16):aA Tryz.prog 283 [.agg [.s c, .s sl, .s q], .s b] (.tup [V7 c sl b,E 0]):=by
 have h64:=nP;have hw:=Er;have hML:=Bl hr lb;have hle:=Tv (b:=b) hr;have hnc:=dY hr.lc;have hns:=dY hr.ls;have hnb:=rH (bK vb) hb;have hb16:=Hb lb;have e1:=eV hr.vc;have e2:=eV hr.vs;have e3:=eV vb;have m1:=PM (a:=num sl) (b:=num c) (bj (fR hns hnc) (by unfold dw;decide+kernel)) oO oO
 have m2:=PM (a:=num sl*num c) (b:=num b) hML (bj (fR hns hnc) (by unfold dw;decide+kernel)) (by have:=BV;omega)
 have s1:=uW (a:=num c) (b:=1) (by have:=hr.c2;omega) oO
 have s2:=uW (a:=num b) (b:=1) oO (by have:=BV;omega)
 have m3:=PM (a:=num c-1) (b:=num b-1) oO oO (by have:=BV;omega)
 have s3:=uW (a:=num sl*num c*num b) (b:=(num c-1)*(num b-1)) hle hML;rw[e1,e2]at m1;rw[e3]at m2;rw[e1]at s1;rw[e3]at s2;have hP:V7 c sl b= .agg [N (num sl*num c*num b),N (num sl*num c*num b-(num c-1)*(num b-1))]:=rfl;rw[hP];clear hML hle hP;generalize num sl*num c*num b=A at*;generalize num sl*num c=B at*;generalize A-(num c-1)*(num b-1)=C at*;generalize (num c-1)*(num b-1)=D at*;refine eW Tryz.call283 Tryz.func283 ?_;repeat' first|simp only[go_sem,seval,ey]|refine cP qT ?_|refine cP m1 ?_|refine cP m2 ?_|refine cP s1 ?_|refine cP s2 ?_|refine cP m3 ?_|refine cP s3 ?_|refine sB ?_|apply xX<;>intro hc|refine⟨oD,?_⟩|exact oD|fail
end Go.Proofs.YtfdjchnefpefbaaGreatDoor
