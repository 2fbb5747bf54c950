/- Part of the proof. -/
import Derived.Test.YtipbhapfacgabaaGreatDoorUH30
import Derived.Test.YtipbhapfacgabaaGreatDoorUH29
set_option linter.all false
set_option maxHeartbeats 16000000
set_option maxRecDepth 100000
namespace Go.Proofs.Tryz
open Go Go.Dom Go.Num
variable {P Q o:Bytes} {p x:Nat}
theorem Oa (n:Bytes) (hn:n.length<=60):aF 50 [.s n] (.b (mB n)):=by
 refine eW call50 func50 ?_;refine Hw ?_;refine aq (α:=Nat) (fun i=>n.length-i) (fun i=>⟨[(0, .v (.s n)),(3, .v (.i .i64 (i:Nat)))],[],_⟩) (fun i=>i<=n.length/\ ∀j,j<i->uo j (JL n j)=false) 0 (fun _=>aB _) ⟨aT _,fun j hj=>oO⟩ ?_ ?_
 ·exact lE
 ·rintro i ⟨hi,ha⟩ R hR
  by_cases hlt:i<n.length
  ·have hlt':(i:Int)<n.length:=oO;have hbad:uo i (JL n i)=true->mB n=false:=by
    intro h;unfold mB;have:(List.range n.length).all (fun i=> !uo i (JL n i))=false:=by
     rw[dA];intro g;have:=bJ.1 g i (fE.2 hlt);rw[h]at this;cases this
    rw[this];rfl
   have hgo:uo i (JL n i)=false-> ∀s',(AS.mk [(0, .v (.s n)),(3, .v (.i .i64 ((i+1:Nat):Int)))] [] 1002).Le s'->R s':=by
    intro h s' hs;refine hR (i+1) ⟨oO,fun j hj=> ?_⟩ oO s' hs
    by_cases e:j=i
    ·subst e;exact h
    ·exact ha j oO
   clear hR ha;obtain⟨c,hcc⟩: ∃c,JL n i=c:=⟨_,rfl⟩;have hcd:((n.getD i 0).toNat:Int)=c:=hcc;have h0:0<=c/\c<256:=by rw[<-hcd];have:=(n.getD i 0).toNat_lt;omega
   rw[hcc]at hbad hgo;unfold uo at hbad hgo;obtain⟨b1,h1⟩: ∃b,decide (c>=97)=b:=⟨_,rfl⟩;obtain⟨b2,h2⟩: ∃b,decide (c<=122)=b:=⟨_,rfl⟩;obtain⟨b3,h3⟩: ∃b,decide (c>=65)=b:=⟨_,rfl⟩;obtain⟨b4,h4⟩: ∃b,decide (c<=90)=b:=⟨_,rfl⟩;obtain⟨b5,h5⟩: ∃b,((i:Int)==0)=b:=⟨_,rfl⟩;obtain⟨b6,h6⟩: ∃b,(c !=95)=b:=⟨_,rfl⟩;obtain⟨b7,h7⟩: ∃b,decide (c<48)=b:=⟨_,rfl⟩;obtain⟨b8,h8⟩: ∃b,decide (c>57)=b:=⟨_,rfl⟩;rw[h1,h2,h3,h4,h5,h6,h7,h8]at hbad hgo;have e1:decide ((i:Int)<(n.length:Int))=true:=aS hlt';repeat' first|simp only[go_sem,seval,hcd,h1,h2,h3,h4,h5,h6,h7,h8,e1]|refine oE ?_|apply xX<;>intro hc
   all_goals clear h1 h2 h3 h4 h5 h6 h7 h8 hcd hcc h0
   all_goals try simp only[dC,xo]at*
   all_goals subst_vars
   all_goals first
     |(refine hgo rfl _ ?_;(refine AS.Le.of (by first|decide|omega) ?_ ?_<;>simp[dG,dF,aO,hget,AV.bd,AV.bd.bdL,u8,ar,au,az]);done)
     |(rw[hbad rfl];done)
     |(cases b6<;>first|(simp at hc;done)|(refine hgo rfl _ ?_;(refine AS.Le.of (by first|decide|omega) ?_ ?_<;>simp[dG,dF,aO,hget,AV.bd,AV.bd.bdL,u8,ar,au,az]);done)|(rw[hbad rfl];done)|fail)
     |fail
  ·obtain rfl:i=n.length:=oO;have e:mB n=(!(n==[])&&decide (n.length<=32)):=by
    unfold mB;have:(List.range n.length).all (fun i=> !uo i (JL n i))=true:=by
     rw[bJ];intro j hj;rw[ha j (fE.1 hj)];rfl
    rw[this,cB]
   rw[e];have e2:decide ((n.length:Int)<=32)=decide (n.length<=32):=by rw[jm];omega
   clear ha hR e;exact zs0
theorem Kg {m:Bytes} (hm:m≠[]):(m.getD (m.length-1) 0).toNat%2=num m%2:=by
 obtain⟨r,c,rfl⟩: ∃r c,m=r++[c]:=⟨_,_,(Je hm).symm⟩;rw[yT];have:(r++[c]).getD ((r++[c]).length-1) 0=c:=by simp[bR]
 rw[this];omega
theorem vH {m:Bytes} (lm:m.length<=8) (lo:o.length<=8):aF 51 [G m o] (E (gE m o)):=by
 have v1:=aQ m;have v2:=aQ o;unfold gE
 by_cases hv:aa m=true/\aa o=true
 case neg=>
  have:(aa m&&aa o)=false:=by rw[dA];intro g;simp at g;exact hv g
  rw[this];generalize aa m=b1 at*;generalize aa o=b2 at*;refine eW call51 func51 ?_;exact O5 @v1 @v2
 obtain⟨vm,vo⟩:=hv;have nm:=cU lm;have no:=cU lo;rw[vm]at v1;rw[vo]at v2
 by_cases ho:o=[]
 ·subst ho;have e0:(if !(aa m&&aa [])then(3:Int)else if(([]:Bytes)==[])then(if dH m []then 0 else 13)else if num m<=1\/num []<=1\/(num m-1)%num []≠0 then 13 else 0)=if dH m []then 0 else 13:=by
   rw[vm];rfl
  rw[e0]
  by_cases hm:m=[]
  ·subst hm;have:dH [] []=false:=by decide
   rw[this];refine eW call51 func51 ?_;exact wq @nn @v1 @v2
  have hb:(m==([]:Bytes))=false:=by simpa using hm
  have hl:=Kg hm;have hlen:0<m.length:=qy.2 hm;have hix: ∀ _:True,((m.length:Int)-1).toNat=m.length-1:=fun _=>oO
  have hmod: ∀c:UInt8,((c.toNat:Nat):Int).tmod 2=((c.toNat%2:Nat):Int):=fun c=>rfl
  have ho8:=nX (a:=m) (b:=[8]) (bY vm) (.inr oC) oO oC;rw[show num ([8]:Bytes)=8 from rfl]at ho8
  have hle: ∀ _:True,decide (bK (num m) 8<=0)= !decide (8<num m):=fun _=>by
   rw[cI];simp only[bc,dC,kS];unfold bK;split<;>(try split)<;>omega
  have hg:dH m []=(decide (num m%2=1)&&decide (8<num m)):=by
   unfold dH;rw[vm,kN,Nat.pow_zero,jO];rfl
  rw[hg,<-hl];generalize bK (num m) 8=cm at*;obtain⟨c,hcc⟩: ∃c,c=m.getD (m.length-1) 0:=⟨_,rfl⟩;rw[<-hcc];clear hl hg e0;refine eW call51 func51 ?_;repeat' first|simp only[go_sem,seval,nn,hb,hix oT,<-hcc,hmod,hle oT]|refine cP v1 ?_|refine cP v2 ?_|refine cP ho8 ?_|refine oE ?_|apply xX<;>intro hc
  all_goals first|(simp_all;done)|(simp_all;omega)|skip
 have hb:(o==([]:Bytes))=false:=by simpa using ho
 have hop:num o≠0:=fun e=>ho ((sK vo).1 e)
 have e1:N (num m)= .s m:=congrArg PV.s (eU vm);have e2:N (num o)= .s o:=congrArg PV.s (eU vo);rw[vm,vo,hb];simp only[dW,cQ,bQ,ak];have q0:(m==([]:Bytes))=decide (num m=0):=by
  have:=xR (num m) 0;rw[eU vm]at this;exact this
 have q1:(m==([1]:Bytes))=decide (num m=1):=by
  have:=xR (num m) 1;rw[eU vm]at this;exact this
 have q2:(o==([1]:Bytes))=decide (num o=1):=by
  have:=xR (num o) 1;rw[eU vo]at this;exact this
 by_cases hbad:num m=0\/num m=1\/num o=1
 ·rw[ah oO];refine eW call51 func51 ?_;repeat' first|simp only[go_sem,seval,hb,q0,q1,q2]|refine cP v1 ?_|refine cP v2 ?_|refine oE ?_|apply xX<;>intro hc
  all_goals (exfalso;simp_all)
 have h1:=uP m [1] oO oC (show 1<=num m by omega)
 rw[show num ([1]:Bytes)=1 from rfl]at h1
 have h2:=sN (a:=aZ (num m-1)) (b:=o) (gF _) (bY vo) oO (by
  have:=lN (show num m-1<(2^64) by omega)
  omega) oO
 rw[aP]at h2;have hz: ∀ _:True,(aZ ((num m-1)%num o)==([]:Bytes))=decide ((num m-1)%num o=0):=fun _=>by
  rw[cI];simp[gR]
 have t0:decide (num m=0)=false:=b9 oO;have t1:decide (num m=1)=false:=b9 oO;have t2:decide (num o=1)=false:=b9 oO;have ei:(if num m<=1\/num o<=1\/(num m-1)%num o≠0 then(13:Int)else 0)=if(num m-1)%num o=0 then 0 else 13:=by
  by_cases g:(num m-1)%num o=0
  ·rw[af oO,ah g]
  ·rw[ah oO,af g]
 rw[ei];refine eW call51 func51 ?_;exact Wm (aN @hb (aN @q0 (aN @q1 (aN @q2 (aN @t0 (aN @t1 (aN @t2 (hz oT)))))))) @v1 @v2 @h1 @h2
theorem KK {m:Bytes} (lm:m.length<=8) (o:Bytes) {x:Bytes} (hE:gE m o=0) (vx:aa x=true):aF 116 [G m o, .s x] (.b (lf m o x)):=by
 by_cases ho:o=[]
 ·subst ho;obtain⟨vm,-,m1,hr,-⟩:=qJ hE;have hg:=hr rfl;have lx:=eu vx;have hor:=nX (bY vx) (bY vm) oO oO;have hcm:=Fc (oH vx) (oH vm);rw[eT vx,eT vm]at hcm;have hlt: ∀ _:True,decide (bK (num x) (num m)<0)=decide (num x<num m):=fun _=>dLt _ _
  have e:lf m [] x=(!(x==[])&&decide (num x<num m)&&decide (Nat.gcd (num x) (num m)=1)):=by
   simp[lf,cL,hg,vx]
  rw[e];generalize bK (num x) (num m)=cm at*;refine eW call116 func116 ?_;repeat' first|simp only[go_sem,seval,nn,hlt oT,NS]|refine cP hor ?_|refine cP hcm ?_|refine oE ?_|apply xX<;>intro hc
  all_goals simp_all
  all_goals (intros;omega)
 ·have hb:(o==([]:Bytes))=false:=by simpa using ho
  have h:=Fa lm o x;unfold lf;rw[hb];simp only[bQ,ak];refine eW call116 func116 ?_;exact ot @hb @h
theorem KJ {m:Bytes} (lm:m.length<=8) (lo:o.length<=8) (x:Bytes):aF 52 [G m o, .s x] (.b (Cd m o x)):=by
 have h1:=vH lm lo;have hv:=aQ x
 by_cases hE:gE m o=0
 ·rw[hE]at h1
  by_cases vx:aa x=true
  ·have h2:=KK lm o hE vx;rw[vx]at hv;unfold Cd;rw[hE];generalize lf m o x=b at*;refine eW call52 func52 ?_;exact YZ @h1 @hv @h2 oT
  ·have vx:aa x=false:=by simpa using vx
   rw[vx]at hv;have:Cd m o x=false:=by
    rw[dA];intro g;simp only[Cd,aV]at g;have:=((eY hE).1 g.2).1;rw[vx]at this;cases this
   rw[this];refine eW call52 func52 ?_;exact z2 @h1 @hv
 ·have:Cd m o x=false:=by simp[Cd,hE]
  rw[this];generalize gE m o=z at*;refine eW call52 func52 ?_;exact Sp @h1
def Key.rb (k:Key):List Bytes:=k.z::k.u::k.h::k.r
theorem HP (a b c:Bytes) (r:List Bytes):(AV.v (.s a)::AV.v (.s b)::AV.v (.s c)::List.map AV.v (List.flatMap PV.cells (List.map PV.s r)))=List.map AV.v (List.map PV.s (a::b::c::r)):=by rw[pR];rfl
theorem Bq (k:Key) (hr:k.r.length<1000000):aF 16 [k.pv] (.sl (k.rb.map .s)):=by
 obtain⟨name,m,o,z,s,r,u,h⟩:=k;unfold Key.pv Key.rb;simp only at*;have e:=HP z u h r
 by_cases h0:r=[]
 ·subst h0;refine eW call16 func16 ?_;exact z0
 have hr0:(r.length=0)=False:=by rw[eq_iff_iff,iff_false];intro g;exact h0 (iZ.1 g)
 obtain⟨ys,hys⟩: ∃ys,ys=z::u::h::r:=⟨_,rfl⟩;have hyl:3+r.length=ys.length:=by rw[hys];simp;omega
 rw[<-hys]at e⊢;obtain⟨r1,r2,r3,r4⟩:=Oq ys;have r5:(List.map AV.v (List.map PV.s ys)).length=ys.length:=by simp
 have r7:(List.flatMap PV.cells (List.map PV.s r)).length+1+1+1=ys.length:=by rw[pR,hys];simp
 refine eW call16 func16 ?_;refine eJ @hr0 ?_;refine⟨⟨fun x hx=>mO hx,fun y hy=>rE hy,oO,oO⟩,?_⟩
 exact oo (aN @e (aN @hyl (aN @r2 (aN @r3 (aN @r4 (aN @r5 (aN @r7 @iI)))))))
def Key.l (k:Key):List Bytes:=k.m::k.o::k.s::k.rb
theorem Jz (k:Key):k.bases.all (fun y=>aa (FU y))=(k.s::k.rb).all aa:=by
 simp[Key.bases,Key.rb,rU,FU,List.all_map,Function.comp_def]
theorem JA (k:Key):k.bases.any (rA k.m)=(k.s==[1]||(k.s::k.rb).any (fun x=> !cL k.m [] x)):=by
 have e: ∀b,rA k.m (rU 0 b)= !cL k.m [] b:=fun b=>by simp[rA,rU,FU,XF]
 have e1: ∀b,rA k.m (rU 1 b)= !cL k.m [] b:=fun b=>by simp[rA,rU,FU,XF]
 have e2: ∀b,rA k.m (rU 2 b)=(!cL k.m [] b||b==[1]):=fun b=>by simp[rA,rU,FU,XF]
 simp only[Key.bases,Key.rb,List.any_cons,List.any_map,Function.comp_def,e,e1,e2]
 cases cL k.m [] k.s<;>cases(k.s==[1])<;>simp
theorem Gr (m:Bytes):gE m []=Bm m:=by
 unfold gE Bm;have hv0:aa []=true:=rfl
 cases aa m<;>simp[hv0]
theorem yg {l:List Bytes} {i:Nat} (h:i<l.length):(List.map AV.v (List.map PV.s l)).getD i .u= .v (.s (l.getD i [])):=by
 simp[bR,h]
theorem Fb (p:cz) (k:Key) (pe:Int) (hp:aF 49 [p.pv] (E pe)) (lm:k.m.length<=8) (ln:k.name.length<=60) (lr:k.r.length<=20):aF 14 [p.pv,k.pv] (E (fK pe k)):=by
 have hb:=Bq k oO;have hnm:=Oa k.name ln;have hg:=vH lm (o:=[]) oC;have hhas:=KJ lm (o:=[]) oC;rw[Gr]at hg;have hE: ∀e,fK pe k=e->aF 14 [p.pv,k.pv] (E e)->aF 14 [p.pv,k.pv] (E (fK pe k)):=fun e h g=>by rw[h];exact g
 by_cases h0:pe=0
 case neg=>
  refine hE pe (by simp[fK,h0]) ?_
  unfold cz.pv Key.pv at*;refine eW call14 func14 ?_;exact z1 @hp
 subst h0;clear hE;obtain⟨ys,hys⟩: ∃ys,ys=k.l:=⟨_,rfl⟩;have hyl:ys.length=6+k.r.length:=by rw[hys];simp[Key.l,Key.rb];omega
 have hrl:(k.rb.map PV.s).length=k.rb.length:=aR ..;have hrb:k.rb.length=3+k.r.length:=by simp[Key.rb];omega
 have hcl:(AV.v (.s k.m)::AV.v (.s k.o)::AV.v (.s k.s)::List.map AV.v (List.flatMap PV.cells (List.map PV.s k.rb)))=List.map AV.v (List.map PV.s ys):=by rw[hys];exact HP _ _ _ _
 have hke:fK 0 k=if !(ys.all aa)then 3 else if !mB k.name then 1 else if !(k.o==[])||decide (Bm k.m≠0)then 13 else if k.r.length<2\/k.r.length>18 then 6 else if k.s==[1]||(ys.drop 2).any (fun x=> !cL k.m [] x)then 13 else 0:=by
  unfold fK;rw[Jz,JA,hys];simp only[Key.l,List.all_cons,De,List.drop_zero]
  cases aa k.m<;>cases aa k.o<;>simp
 rw[hke];clear hke;have hr0:(3+k.r.length=0)=False:=by rw[eq_iff_iff,iff_false];omega
 have hin: ∀x,Bm k.m=0->Cd k.m [] x=cL k.m [] x:=fun x h=>by
  simp[Cd,Gr,h,lf]
 generalize k.rb=rb at*;obtain⟨name,m,o,z,s,r,u,h⟩:=k;unfold cz.pv Key.pv at*;simp only at*;refine eW call14 func14 ?_;refine zS (aN @hrl (aN @hrb @hr0)) @hp @hb ?_;refine⟨⟨fun x hx=>mO hx,fun y hy=>rE hy,oO,oO⟩,?_⟩
 refine eJ @hcl ?_;have hl2:(List.map AV.v (List.map PV.s ys)).length=ys.length:=by simp
 refine aq (α:=Nat) (fun i=>ys.length-i) (fun i=>⟨[(3, .p 1001 0 0),(6, .rs 1019 0 0 ys.length 1),(7,E' i)],[(1001,⟨0,[.v (.s name), .v (.s m), .v (.s o), .v (.s z), .v (.s s), .v (.sl (r.map .s)), .v (.s u), .v (.s h)],false,none⟩),(1019,⟨0,List.map AV.v (List.map PV.s ys),true,some 22⟩)],_⟩) (fun i=>i<=ys.length/\(ys.drop i).all aa=ys.all aa) 0 (fun _=>aB _) ⟨aT _,rfl⟩ ?_ ?_
 ·(refine AS.Le.of (by first|decide|omega) ?_ ?_<;>simp[dG,dF,aO,hget,AV.bd,AV.bd.bdL,u8,ar,au,az])
  all_goals omega
 ·rintro i ⟨hi,hf⟩ R hR
  by_cases hlt:i<ys.length
  ·have e1:=yg hlt;rw[drop_cons hlt,List.all_cons]at hf;have hgo:=hR (i+1);have hv:=aQ (ys.getD i []);clear hR;generalize ys.getD i []=y at*
   cases hvy:aa y
   ·rw[hvy]at hv hf;rw[<-hf,fp];exact ot (aN @e1 @hl2) @hv
   ·rw[hvy]at hv hf;rw[cB]at hf;have hgo:=hgo ⟨oO,hf⟩ oO;exact qe (aN @e1 @hl2) @hgo @hv
  ·obtain rfl:i=ys.length:=oO;have hall:ys.all aa=true:=by rw[<-hf,dO];rfl
   rw[hall]
   cases hn:mB name
   ·rw[hn]at hnm;exact ot @hl2 @hnm
   rw[hn]at hnm
   by_cases ho:o=[]
   case neg=>
    have hob:(o==([]:Bytes))=false:=by simpa using ho
    rw[hob];exact ot (aN @hl2 @hob) @hnm
   subst ho
   by_cases hpw:Bm m=0
   case neg=>
    rw[aS hpw];generalize Bm m=pw at*;repeat' first|simp only[go_sem,seval,hl2,aR,nn]|refine cP hnm ?_|refine cP hg ?_|refine oE ?_|apply xX<;>intro hc
    all_goals first|(exact aJ (by assumption) hpw)|skip
   rw[hpw]at hg;have hd0:decide (Bm m≠0)=false:=by simp[hpw]
   rw[hd0];have hin':=fun x=>hin x hpw
   by_cases hr3:r.length<2\/r.length>18
   ·rw[ah hr3];exact wq (aN @hl2 @nn) @hnm @hg
   rw[af hr3]
   by_cases hs1:s=[1]
   ·subst hs1;repeat' first|simp only[go_sem,seval,hl2,aR,nn,kR]|refine cP hnm ?_|refine cP hg ?_|refine oE ?_|apply xX<;>intro hc
    all_goals rfl
   have hsb:(s==([1]:Bytes))=false:=by simpa using hs1
   rw[hsb,kE];refine Sm (aN @hl2 (aN @nn @hsb)) @hnm @hg ?_;refine aq (α:=Nat) (fun i=>ys.length-i) (fun i=>⟨[(3, .p 1001 0 0),(6, .rs 1019 0 0 ys.length 1),(8,E' i)],[(1001,⟨0,[.v (.s name), .v (.s m), .v (.s []), .v (.s z), .v (.s s), .v (.sl (r.map .s)), .v (.s u), .v (.s h)],false,none⟩),(1019,⟨0,List.map AV.v (List.map PV.s ys),true,some 22⟩)],_⟩) (fun i=>i<=ys.length/\(ys.drop i).any (fun x=> !cL m [] x)=(ys.drop 2).any (fun x=> !cL m [] x)) 2 (fun _=>aB _) ⟨oO,rfl⟩ ?_ ?_
   ·exact lE
   ·rintro i ⟨hi,hf⟩ R hR
    by_cases hlt:i<ys.length
    ·have e1:=yg hlt;rw[drop_cons hlt,List.any_cons]at hf;have hgo:=hR (i+1);have hv:=hhas (ys.getD i []);rw[hin']at hv;clear hR;generalize ys.getD i []=y at*
     cases hvy:cL m [] y
     ·rw[hvy]at hv hf;rw[<-hf];exact ot (aN @e1 @hl2) @hv
     ·rw[hvy]at hv hf;have hgo:=hgo ⟨oO,hf⟩ oO;exact qe (aN @e1 @hl2) @hgo @hv
    ·obtain rfl:i=ys.length:=oO;rw[<-hf,dO];exact oo @hl2
theorem SV (h:o.length<=8):num o<dP:=ba (cU h) (by unfold dP;decide+kernel)
theorem Ff {m o x:Bytes} (lm:m.length<=8) (h:cL m o x=true):num x<(2^64):=by
 simp only[cL,aV,bc]at h;exact gj h.1.2 (cU lm)
theorem Fh {a:Bytes} (va:aa a=true) (la:a.length<=8):aF 75 [.s a] (.tup [.b (fD (num a)),E 0]):=by
 have h1:=G2 a oO;rw[va,aS la,ah rfl,ah la,cB,cB]at h1;have h2:=S3 a oO;have hn:=cU la;rw[bM hn,aS la]at h2;have h3:=IL (n:=(num a-1)/2) oO;unfold fD;have h0:eZ (num a)=true->2<=num a:=fun h=>FZ h
 generalize num a=n at*
 cases hb:eZ n with
 |false=>
  rw[hb]at h1;refine eW call75 func75 ?_;exact z2 @h1 @h2
 |true=>
  rw[hb]at h1;have h0:=h0 hb;obtain⟨k,rfl⟩: ∃k,n=k+1:=⟨n-1,oO⟩;rw[o6]at h3⊢;refine eW call75 func75 ?_;simp only[go_sem,seval];have m1:(k+1+18446744073709551615)%18446744073709551616=k:=oO;have m2:k/2%18446744073709551616=k/2:=bM oO;exact zW (aN @m1 (aN @m2 (aN @uw (aN @yN (aN @qW (aN @vE (aN @Fx (aN @BL (aN @u6 (aN @Am (aN @vO (aN @vM @pN)))))))))))) @h1 @h2 @h3 oT
theorem rH (hp:p<(2^64)):aF 26 [N p] (N (p/2)):=by
 have h2:=X4;have h1:aF 78 [N p, .s [2]] (.tup [N (p/2),N (p%2),E 0]):=zq (a:=p) (b:=2) (by unfold dP;omega) (by decide+kernel) oC
 refine eW call26 func26 ?_;exact z2 @h2 @h1
theorem Bo (hx:x<(2^64)) (hp:p<(2^64)) (h0:0<p):aF 55 [N x,N p] (.b (decide (x%p=1))):=by
 have h2:=IP;have h1:=zq (a:=x) (b:=p) (by unfold dP;omega) (by unfold dP;omega) h0
 have e:(aZ (x%p)==([1]:Bytes))=decide (x%p=1):=by
  rw[cI,dZ,decide_eq_true_iff,show([1]:Bytes)=aZ 1 from rfl]
  exact⟨fun h=>by have:=congrArg num h;rwa[aP,aP]at this,fun h=>by rw[h]⟩
 refine eW call55 func55 ?_;exact wq @e @h2 @h1
def OK (x p:Nat):Bool:=decide (x^(p/2)%p=1)
theorem sM (hx:x<(2^64)) (hp:p<(2^64)) (h0:0<p):aF 47 [N x,N p] (.b (OK x p)):=by
 have h2:=IP;have h1:=rH hp;have h3:=S2 (a:=x) (m:=p) (e:=aZ (p/2)) hx (vB (by unfold dP;omega)) hp h0
 rw[aP]at h3;have e:(aZ (x^(p/2)%p)==([1]:Bytes))=OK x p:=by
  unfold OK;rw[cI,dZ,decide_eq_true_iff,show([1]:Bytes)=aZ 1 from rfl]
  exact⟨fun h=>by have:=congrArg num h;rwa[aP,aP]at this,fun h=>by rw[h]⟩
 generalize x^(p/2)%p=y at*;refine eW call47 func47 ?_;exact zW @e @h2 @h1 @h3 oT
def GW (P Q:Bytes):Int:=if fD (num P)&&fD (num Q)&& !(P==Q)then 0 else 12
theorem zx (vP:aa P=true) (vQ:aa Q=true) (lP:P.length<=8) (lQ:Q.length<=8):aF 24 [G P Q] (E (GW P Q)):=by
 have h1:=Fh vP lP;have h2:=Fh vQ lQ;unfold GW;generalize fD (num P)=a at*;generalize fD (num Q)=b at*;generalize hc:(P==Q)=c at*
 cases a<;>cases b<;>cases c
 all_goals
  refine eW call24 func24 ?_;exact wq @hc @h1 @h2
theorem KR (m o:Bytes):aF 53 [G m o] (.b (aa m&&aa o)):=by
 have h1:=aQ m;have h2:=aQ o;generalize aa m=a at*;generalize aa o=b at*;cases a;all_goals
  refine eW call53 func53 ?_;exact z2 @h1 @h2
def jF (m o P Q:Bytes):Int:=if !(aa m&&aa o&&aa P&&aa Q)then 3 else if !dH m o then 13 else if num P*num Q≠num m then 1 else GW P Q
theorem vI {m o P Q:Bytes} (lm:m.length<=8) (lP:P.length<=8) (lQ:Q.length<=8):aF 15 [G m o,G P Q] (E (jF m o P Q)):=by
 have h1:=KR m o;have h2:=aQ P;have h3:=aQ Q;have h4:=zk m o;have h5:=fun a b=>zx (P:=P) (Q:=Q) a b lP lQ
 have h6:aa P=true->aa Q=true->aF 25 [.s P, .s Q] (.tup [N (num P*num Q),E 0]):=fun a b=>by
  have h:=N9 (a:=num P) (b:=num Q) (ba (gK (cU lP) (cU lQ)) (by decide+kernel)) (SV lP) (SV lQ)
  rw[eT a,eT b]at h;exact h
 have h7:aa m=true->(aZ (num P*num Q)==m)=decide (num P*num Q=num m):=fun v=>by
  rw[cI,dZ,decide_eq_true_iff];exact⟨fun h=>by rw[<-h,aP],fun h=>by rw[h,eU v]⟩
 unfold jF
 by_cases hv:(aa m&&aa o&&aa P&&aa Q)=true
 case neg=>
  have hvf:=dA.2 hv;rw[ah (by rw[hvf];rfl)]
  clear h5 h6 h7 hvf;generalize (aa m&&aa o)=a at*;generalize aa P=b at*;generalize aa Q=c at*
  cases a<;>cases b<;>cases c
  all_goals try exact aJ rfl hv
  all_goals
   refine eW call15 func15 ?_;exact z4 @h1 @h2 @h3 oT
 rw[af (by rw[hv];decide)]
 simp only[aV]at hv;obtain⟨⟨⟨v1,v2⟩,v3⟩,v4⟩:=hv;rw[v1,v2]at h1;rw[v3]at h2;rw[v4]at h3;have h5:=h5 v3 v4;have h6:=h6 v3 v4;have h7:=h7 v1;generalize hg:dH m o=gb at*;cases gb
 ·rw[ah (show(!false)=true from rfl)]
  refine eW call15 func15 ?_;exact z4 @h1 @h2 @h3 @h4
 rw[af (show¬(!true)=true by decide)]
 generalize GW P Q=e at*
 by_cases hn:num P*num Q=num m
 ·rw[af (by simpa using hn)]
  rw[aS hn]at h7;refine eW call15 func15 ?_;exact Wy @h7 @h1 @h2 @h3 @h4 @h6 @h5 oT
 ·rw[ah hn];rw[b9 hn]at h7;refine eW call15 func15 ?_;exact Wy @h7 @h1 @h2 @h3 @h4 @h6 oT oT
def mq (m o P Q x:Bytes):Int:=if !aa x then 3 else if jF m o P Q≠0 then jF m o P Q else if !cL m o x then 13 else 0
theorem G6 {m o P Q:Bytes} (lm:m.length<=8) (lP:P.length<=8) (lQ:Q.length<=8) (x:Bytes):aF 46 [G m o,G P Q, .s x] (E (mq m o P Q x)):=by
 have h1:=aQ x;have h2:=vI (o:=o) lm lP lQ;have h3:=Bn lm o x;unfold mq;generalize aa x=a at*;generalize cL m o x=b at*
 by_cases hc:jF m o P Q=0
 ·rw[af (show¬jF m o P Q≠0 by simpa using hc)]
  rw[hc]at h2
  cases a<;>cases b
  all_goals
   refine eW call46 func46 ?_;exact z4 @h1 @h2 @h3 oT
 ·rw[ah hc];have hb:(jF m o P Q==0)=false:=by simpa using hc
  generalize jF m o P Q=e at*;cases a;all_goals
   refine eW call46 func46 ?_;exact wq @hb @h1 @h2
def Gv (m o P Q x:Bytes):Bool:=decide (mq m o P Q x=0)&&(OK (num x) (num P)&&OK (num x) (num Q))
theorem B3 {m o P Q x:Bytes} (h:mq m o P Q x=0):aa x=true/\jF m o P Q=0/\cL m o x=true:=by
 unfold mq at h
 split at h
 ·cases h
 rename_i h1
 split at h
 ·rename_i h2;exact aJ h h2
 rename_i h2
 split at h
 ·cases h
 rename_i h3;exact⟨by simpa using h1,Classical.not_not.1 h2,by simpa using h3⟩
theorem wA {m o P Q:Bytes} (h:jF m o P Q=0):aa P=true/\aa Q=true/\dH m o=true/\num P*num Q=num m/\fD (num P)=true/\fD (num Q)=true/\P≠Q:=by
 unfold jF at h
 split at h
 ·cases h
 rename_i h1
 split at h
 ·cases h
 rename_i h2
 split at h
 ·cases h
 rename_i h3;simp only[dC,xk,aV]at h1 h2;unfold GW at h
 split at h
 ·rename_i h4;simp only[aV,dC,dY]at h4;exact⟨h1.1.2,h1.2,h2,Classical.not_not.1 h3,h4.1.1,h4.1.2,h4.2⟩
 ·cases h
theorem oM {m o P Q:Bytes} (lm:m.length<=8) (lP:P.length<=8) (lQ:Q.length<=8) (x:Bytes):aF 11 [G m o,G P Q, .s x] (.tup [.b (Gv m o P Q x),E (mq m o P Q x)]):=by
 have h1:=G6 (o:=o) lm lP lQ x;unfold Gv
 by_cases he:mq m o P Q x=0
 ·obtain⟨vx,hc,hh⟩:=B3 he;obtain⟨vP,vQ,-,-,sP,sQ,-⟩:=wA hc;have lx:=(Ff lm hh);have a1:=sM (x:=num x) (p:=num P) lx (cU lP) (by have:=fQ sP;omega)
  have a2:=sM (x:=num x) (p:=num Q) lx (cU lQ) (by have:=fQ sQ;omega)
  rw[eT vx,eT vP]at a1;rw[eT vx,eT vQ]at a2;rw[he,aS rfl,cB];rw[he]at h1;generalize OK (num x) (num P)=b at*;generalize OK (num x) (num Q)=d at*;cases b;all_goals
   refine eW call11 func11 ?_;exact z4 @h1 @a1 @a2 oT
 ·rw[b9 he,fp];have hb:(mq m o P Q x==0)=false:=by simpa using he
  generalize mq m o P Q x=e at*;refine eW call11 func11 ?_;exact ot @hb @h1
def UJ (m o P Q x:Bytes):Bool:=Gv m o P Q x&&(!decide (num x%num P=1)&& !decide (num x%num Q=1))
theorem KN {m o P Q:Bytes} (lm:m.length<=8) (lP:P.length<=8) (lQ:Q.length<=8) (x:Bytes):aF 17 [G m o,G P Q, .s x] (.tup [.b (UJ m o P Q x),E (mq m o P Q x)]):=by
 have h1:=oM (o:=o) lm lP lQ x;unfold UJ
 cases hs:Gv m o P Q x with
 |false=>
  rw[hs]at h1;generalize mq m o P Q x=e at*;refine eW call17 func17 ?_;exact z1 @h1
 |true=>
  rw[hs]at h1;unfold Gv at hs;simp only[aV,bc]at hs;obtain⟨vx,hc,hh⟩:=B3 hs.1;obtain⟨vP,vQ,-,-,sP,sQ,-⟩:=wA hc;have lx:=Ff lm hh;have a1:=Bo (x:=num x) (p:=num P) lx (cU lP) (by have:=fQ sP;omega)
  have a2:=Bo (x:=num x) (p:=num Q) lx (cU lQ) (by have:=fQ sQ;omega)
  rw[eT vx,eT vP]at a1;rw[eT vx,eT vQ]at a2;generalize mq m o P Q x=e at*;generalize decide (num x%num P=1)=b at*;generalize decide (num x%num Q=1)=d at*;clear hs
  cases b<;>cases d
  all_goals
   refine eW call17 func17 ?_;exact z4 @h1 @a1 @a2 oT
theorem Fg (vP:aa P=true) (vQ:aa Q=true) (lP:P.length<=8) (lQ:Q.length<=8) (h0:GW P Q=0):aF 7 [G P Q] (.tup [N (num P/2*(num Q/2)),E 0]):=by
 have h1:=aQ P;have h2:=aQ Q;have h3:=zx vP vQ lP lQ;have a1:=rH (cU lP);have a2:=rH (cU lQ);have p8:=cU lP;have q8:=cU lQ;have a3:=N9 (a:=num P/2) (b:=num Q/2) (ba (gK (dD (fF ..) p8) (dD (fF ..) q8)) (by decide+kernel)) (by unfold dP;omega) (by unfold dP;omega)
 rw[vP]at h1;rw[vQ]at h2;rw[h0]at h3;rw[eT vP]at a1;rw[eT vQ]at a2;refine eW call7 func7 ?_;exact z7 @h1 @h2 @h3 @a1 @a2 @a3 oT
