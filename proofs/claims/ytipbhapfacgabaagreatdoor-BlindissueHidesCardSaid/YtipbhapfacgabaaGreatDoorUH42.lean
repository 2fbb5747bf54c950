/- Part of the proof. -/
import Derived.Test.YtipbhapfacgabaaGreatDoorUH33
set_option linter.all false
set_option maxHeartbeats 16000000
set_option maxRecDepth 100000
namespace Go.Proofs.Tryz
open Go Go.Dom Go.Num
def okF (m o P Q:Bytes) (i:Nat) (x:Bytes):Bool:=if(decide (i=0)||(decide (i=2)||decide (i=3)))=true then UJ m o P Q x else Gv m o P Q x
def Gq (m o P Q:Bytes) (l:List Bytes):Bool:=(List.range l.length).all fun i=>okF m o P Q i (l.getD i [])
def vk (pe:Int) (k:Key) (P Q:Bytes):Int:=if fK pe k≠0 then fK pe k else if jF k.m k.o P Q≠0 then jF k.m k.o P Q else if Gq k.m k.o P Q (k.s::k.rb)then 0 else 13
theorem Qe (a:Bytes) (r:List Bytes):(AV.v (.s a)::List.map AV.v (List.flatMap PV.cells (List.map PV.s r)))=List.map AV.v (List.map PV.s (a::r)):=by rw[pR];rfl
theorem N7 (p:cz) (k:Key) (pe:Int) (hp:aF 49 [p.pv] (E pe)) (lm:k.m.length<=8) (ln:k.name.length<=60) (lr:k.r.length<=20) {P Q:Bytes} (lP:P.length<=8) (lQ:Q.length<=8):aF 5 [p.pv,k.pv,G P Q] (E (vk pe k P Q)):=by
 have hck:=Fb p k pe hp lm ln lr;have h10:=vI (o:=k.o) lm lP lQ;have hb:=Bq k oO;have hsq:=oM (o:=k.o) lm lP lQ;have hgn:=KN (o:=k.o) lm lP lQ;unfold vk
 by_cases hk:fK pe k=0
 case neg=>
  rw[ah hk];have hb2:(fK pe k==0)=false:=by simpa using hk
  have hb3:(fK pe k !=0)=true:=by simpa using hk
  generalize fK pe k=e at*;unfold cz.pv Key.pv at*;refine eW call5 func5 ?_;exact ot (aN @hb2 @hb3) @hck
 rw[af (show¬fK pe k≠0 by simpa using hk)]
 rw[hk]at hck
 by_cases hc:jF k.m k.o P Q=0
 case neg=>
  rw[ah hc];have hb2:(jF k.m k.o P Q==0)=false:=by simpa using hc
  have hb3:(jF k.m k.o P Q !=0)=true:=by simpa using hc
  generalize jF k.m k.o P Q=e at*;unfold cz.pv Key.pv at*;refine eW call5 func5 ?_;exact wq (aN @hb2 @hb3) @hck @h10
 rw[af (show¬jF k.m k.o P Q≠0 by simpa using hc)]
 rw[hc]at h10;obtain⟨ys,hys⟩: ∃ys,ys=k.s::k.rb:=⟨_,rfl⟩;have hyl:ys.length=4+k.r.length:=by rw[hys];simp[Key.rb];omega
 have hrl:(k.rb.map PV.s).length=k.rb.length:=aR ..;have hrb:k.rb.length=3+k.r.length:=by simp[Key.rb];omega
 have hcl:(AV.v (.s k.s)::List.map AV.v (List.flatMap PV.cells (List.map PV.s k.rb)))=List.map AV.v (List.map PV.s ys):=by rw[hys];exact Qe _ _
 rw[<-hys];clear hys hk hc hp;have hr0:(3+k.r.length=0)=False:=by rw[eq_iff_iff,iff_false];omega
 generalize k.rb=rb at*;obtain⟨name,m,o,z,s,r,u,h⟩:=k;unfold cz.pv Key.pv at*;simp only at*;have hl2:(List.map AV.v (List.map PV.s ys)).length=ys.length:=by simp
 unfold Gq;refine eW call5 func5 ?_;refine zT (aN @hrl (aN @hrb @hr0)) @hck @h10 @hb oT ?_;refine⟨⟨fun x hx=>mO hx,fun y hy=>rE hy,oO,oO⟩,?_⟩
 refine fq @hcl ?_;refine aq (α:=Nat) (fun i=>ys.length-i) (fun i=>⟨[(4, .p 1001 0 0),(5, .p 1002 0 0),(9, .rs 1022 0 0 ys.length 1),(10,E' i)],[(1001,⟨0,[.v (.s name), .v (.s m), .v (.s o), .v (.s z), .v (.s s), .v (.sl (r.map .s)), .v (.s u), .v (.s h)],false,none⟩),(1002,⟨0,[.v (.s P), .v (.s Q)],false,none⟩),(1022,⟨0,List.map AV.v (List.map PV.s ys),true,some 22⟩)],_⟩) (fun i=>i<=ys.length/\ ∀j,j<i->okF m o P Q j (ys.getD j [])=true) 0 (fun _=>aB _) ⟨aT _,fun j hj=>oO⟩ ?_ ?_
 ·(refine AS.Le.of (by first|decide|omega) ?_ ?_<;>simp[dG,dF,aO,hget,AV.bd,AV.bd.bdL,u8,ar,au,az])
  all_goals omega
 ·rintro i ⟨hi,hf⟩ R hR
  by_cases hlt:i<ys.length
  ·have e1:=yg hlt;have hgo:=fun(h:okF m o P Q i (ys.getD i [])=true)=>hR (i+1) ⟨oO,fun j hj=>by
    by_cases e:j=i
    ·subst e;exact h
    ·exact hf j oO⟩ oO
   have hbad:=fun h:okF m o P Q i (ys.getD i [])=false=>ow (p:=fun i=>okF m o P Q i (ys.getD i [])) hlt h
   have v1:=hsq (ys.getD i []);have v2:=hgn (ys.getD i []);have x0:((i:Int)==0)=decide (i=0):=by rw[cI,dZ,decide_eq_true_iff];omega
   have x2:((i:Int)==2)=decide (i=2):=by rw[cI,dZ,decide_eq_true_iff];omega
   have x3:((i:Int)==3)=decide (i=3):=by rw[cI,dZ,decide_eq_true_iff];omega
   clear hR hf;generalize ((List.range ys.length).all fun i=>okF m o P Q i (ys.getD i []))=AL at*
   simp only[okF]at hgo hbad;generalize ys.getD i []=y at*;generalize mq m o P Q y=el at*;generalize decide (i=0)=b0 at*;generalize decide (i=2)=b2 at*;generalize decide (i=3)=b3 at*;generalize UJ m o P Q y=g at*;generalize Gv m o P Q y=q at*
   cases b0<;>cases b2<;>cases b3<;>cases g<;>cases q
   all_goals simp only[kE,qG,Bool.or_false,Bool.or_true,aA,bQ,ak]at hgo hbad
   all_goals try (have hbad:=hbad trivial;rw[hbad];clear hgo)
   all_goals try have hgo:=hgo oT
   all_goals
    repeat' first|simp only[go_sem,seval,e1,hl2,aR,x0,x2,x3]|refine cP v1 ?_|refine cP v2 ?_|refine oE ?_|apply xX<;>intro hc
    all_goals first|rfl|(refine hgo _ ?_;exact lE)
  ·obtain rfl:i=ys.length:=oO;rw[nM hf,ah rfl];clear hR;exact oo @hl2
