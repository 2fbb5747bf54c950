/- Part of the proof. -/
import Derived.Test.YtipbhapfacgabaaGreatDoorUH36
set_option linter.all false
set_option maxHeartbeats 16000000
set_option maxRecDepth 100000
namespace Go.Proofs.Tryz
open Go Go.Dom


def Gw (k:Key):List Bytes:=k.z::k.u::k.h::k.r
theorem nV (p:cz) (hs:p.short):aF 80 [p.pv] (E (fB p)):=by
 by_cases h:p.eA.all aa=true
 ·exact Ri p h hs
 ·have h:p.eA.all aa=false:=by simpa using h
  have e:fB p=3:=by unfold fB;rw[h];rfl
  rw[e];exact VB p h
theorem RN {p:cz} (hs:p.short) (h:fB p=0):r9 p.c p.sl:=by
 unfold fB at h
 split at h
 ·rename_i hv
  split at h
  ·exact aJ h oC
  ·split at h
   ·exact aJ h oC
   ·rename_i ht;have hn: ∀x∈p.eA,aa x=true:=bJ.1 hv;have ht': ∀x∈p.rO,¬num x<2:=fun x hx g=>ht (nj.2 ⟨x,hx,by simpa using g⟩)
    have c1:p.c∈p.eA:=by simp[cz.eA]
    have c2:p.sl∈p.eA:=by simp[cz.eA]
    have d1:=ht' p.c (by simp[cz.rO])
    have d2:=ht' p.sl (by simp[cz.rO])
    exact⟨hn _ c1,hn _ c2,hs _ c1,hs _ c2,oO,oO⟩
 ·exact aJ h oC
structure ui (k:Key):Prop where
 o:k.o=[]
 gd:dH k.m []=true
 s:cL k.m [] k.s=true
 t: ∀x∈Gw k,cL k.m [] x=true
 r:k.r.length<=18
theorem mU {pe:Int} {k:Key} (h:fK pe k=0):pe=0/\ui k:=by
 unfold fK at h
 split at h
 ·rename_i g;exact aJ h g
 ·rename_i g0
  split at h
  ·exact aJ h oC
  ·split at h
   ·exact aJ h oC
   ·split at h
    ·exact aJ h oC
    ·split at h
     ·exact aJ h oC
     ·rename_i g1
      split at h
      ·exact aJ h oC
      ·rename_i g2
       split at h
       ·exact aJ h oC
       ·rename_i g3;simp only[qz,dC,dY,ne_eq,bc,not_or,Decidable.not_not]at g1;have hb: ∀y∈k.bases,rA k.m y=false:=fun y hy=>by
         have:=g3;simp only[Dx]at this;exact wP.1 this y hy|>fun h=>by simpa using h
        have hh: ∀n b,rU n b∈k.bases->cL k.m [] b=true:=fun n b hm=>by
         have:=hb _ hm;simp only[rA,DB,xo]at this;exact this.1
        refine⟨Decidable.not_not.1 g0,g1.1,VS.1 g1.2,hh 2 _ (by simp[Key.bases]),fun x hx=> ?_,oO⟩
        simp only[Gw,bV]at hx;rcases hx with rfl|rfl|rfl|hx
        ·exact hh 0 _ (by simp[Key.bases])
        ·exact hh 1 _ (by simp[Key.bases])
        ·exact hh 1 _ (by simp[Key.bases])
        ·exact hh 0 x (by unfold Key.bases;simp only[bV,cG];exact .inr (.inr (.inr (.inr ⟨x,hx,rfl⟩))))
theorem zr {m x:Bytes} (lm:m.length<=8) (h:cL m [] x=true):x.length<=8:=by
 simp only[cL,aV,bc]at h;have hx:=h.1.1.1.2;have hlt:=h.1.2;have hm:=cU lm;have:x=aZ (num x):=by have:=eT hx;injection this with e;exact e.symm
 rw[this];exact mN.2 oO
end Go.Proofs.Tryz
namespace Go.Proofs.Tryz
open Go Go.Dom Go.Num
variable {k nm nx:Nat} {r:List (FuncId×List PV)} {tr:List (Nat×List Nat×List Nat)}
def FW (n:Nat) (l:List Bytes):Bool:=l.all fun x=>decide (x.length<=n)
theorem kp (n:Nat) (l:List Bytes) (hl:l.length<4611686018427387904):aF 48 [E n, .sl (l.map .s)] (.b (FW n l)):=by
 have l1:(l.map PV.s).length=l.length:=aR ..;unfold FW;refine eW call48 func48 ?_;refine fq @l1 ?_;refine aq (α:=Nat) (fun i=>l.length-i) (fun i=>⟨[(0, .v (E n)),(1, .v (.sl (l.map .s))),(5,E' i)],[],_⟩) (fun i=>i<=l.length/\((l.drop i).all fun x=>decide (x.length<=n))=l.all fun x=>decide (x.length<=n)) 0 (fun _=>aB _) ⟨aT _,rfl⟩ ?_ ?_
 ·exact lE
 ·rintro i ⟨hi,hf⟩ R hR;rw[<-hf]
  by_cases hlt:i<l.length
  ·have e1:=nB hlt;have hgo:=hR (i+1);rw[<-hf]at hgo;rw[bL [] hlt,List.all_cons]at hgo⊢;generalize l.getD i []=x at*;clear hR hf
   by_cases hx:x.length<=n
   ·have hgo:=hgo ⟨oO,by simp[hx]⟩ oO
    exact ua (aN @l1 @e1) @hgo
   ·rw[b9 hx];exact oo (aN @l1 @e1)
  ·obtain rfl:i=l.length:=oO;rw[dO];exact oo @l1
def uC (p:cz):Bool:=FW 8 [p.mm,p.mo,p.mg,p.mh]&&(FW 8 [p.wm,p.wo,p.wg,p.wh]&&FW 8 [p.c,p.sl,p.se,p.at',p.ha,p.el,p.es,p.bl,p.ma])
theorem Jp (p:cz):aF 12 [p.pv] (.b (uC p)):=by
 have h1:=kp 8 [p.mm,p.mo,p.mg,p.mh] (by simp)
 have h2:=kp 8 [p.wm,p.wo,p.wg,p.wh] (by simp)
 have h3:=kp 8 [p.c,p.sl,p.se,p.at',p.ha,p.el,p.es,p.bl,p.ma] (by simp)
 simp only[br,bH,show(((8:Nat):Int))=8 from rfl]at h1 h2 h3
 unfold uC cz.pv;generalize FW 8 [p.mm,p.mo,p.mg,p.mh]=b1 at*;generalize FW 8 [p.wm,p.wo,p.wg,p.wh]=b2 at*;generalize FW 8 [p.c,p.sl,p.se,p.at',p.ha,p.el,p.es,p.bl,p.ma]=b3 at*
 cases b1<;>cases b2
 all_goals
  refine eW call12 func12 ?_;exact zu3 @h1 @h2 @h3
theorem Ca {p:cz} (h:uC p=true):p.short:=by
 unfold uC FW at h;simp only[List.all_cons,List.all_nil,js,aV,bc]at h;obtain⟨⟨h1,h2,h3,h4⟩,⟨h5,h6,h7,h8⟩,h9,h10,h11,h12,h13,h14,h15,h16,h17⟩:=h;intro x hx;simp only[cz.eA,bV,iu,or_false]at hx;rcases hx with rfl|rfl|rfl|rfl|rfl|rfl|rfl|rfl|rfl|rfl|rfl|rfl|rfl|rfl|rfl|rfl|rfl<;>assumption
def uB (k:Key):Bool:=FW 8 [k.m,k.o]&&(FW 9 [k.z,k.s,k.u,k.h]&&(decide (k.r.length<=6)&&(FW 9 k.r&&decide (k.name.length<=60))))
theorem Jo (k:Key) (hl:k.r.length<4611686018427387904):aF 13 [k.pv] (.b (uB k)):=by
 have h1:=kp 8 [k.m,k.o] (by simp)
 have h2:=kp 9 [k.z,k.s,k.u,k.h] (by simp)
 have h3:=kp 9 k.r hl;have l1:(k.r.map PV.s).length=k.r.length:=aR ..;simp only[br,bH,show(((8:Nat):Int))=8 from rfl,show(((9:Nat):Int))=9 from rfl]at h1 h2 h3
 unfold uB Key.pv;generalize FW 8 [k.m,k.o]=b1 at*;generalize FW 9 [k.z,k.s,k.u,k.h]=b2 at*;generalize FW 9 k.r=b3 at*
 by_cases h4:k.r.length<=6<;>by_cases h5:k.name.length<=60
 all_goals
  simp only[h4,h5,decide_true,decide_false,cB,fp,js,qF];have d5:decide ((k.name.length:Int)<=60)=decide (k.name.length<=60):=by rw[jm];omega
  simp only[h5,decide_true,decide_false]at d5
  cases b1<;>cases b2<;>cases b3
  all_goals
   refine eW call13 func13 ?_;exact zW (aN @l1 @d5) @h1 @h2 @h3 oT
theorem MK {k:Key} (h:uB k=true):k.m.length<=8/\k.o.length<=8/\k.r.length<=6/\k.name.length<=60/\(∀x∈k.r,x.length<=9)/\k.z.length<=9/\k.s.length<=9:=by
 unfold uB FW at h;simp only[List.all_cons,List.all_nil,js,aV,bc]at h;obtain⟨⟨h1,h2⟩,⟨h3,h4,h5,h6⟩,h7,h8,h9⟩:=h;exact⟨h1,h2,h7,h9,fun x hx=>of_decide_eq_true (bJ.1 h8 x hx),h3,h4⟩
def wO (p:cz) (k:Key) (tp tq:Bytes):Bool:=uC p&&(uB k&&(decide (tp.length<=8)&&decide (tq.length<=8)))
def nK (p:cz) (k:Key) (tp tq:Bytes):PV:= .agg [.s p.c, .s p.sl, .s p.mm, .s p.mo, .s p.mg, .s p.mh, .s p.wm, .s p.wo, .s p.wg, .s p.wh, .s p.se, .s p.at', .s p.ha, .s p.el, .s p.es, .s p.bl, .s p.ma, .s k.name, .s k.m, .s k.o, .s k.z, .s k.s, .sl (k.r.map .s), .s k.u, .s k.h, .s tp, .s tq]
theorem Hf (p:cz) (k:Key) (tp tq:Bytes) (hl:k.r.length<4611686018427387904):aF 4 [nK p k tp tq] (.b (wO p k tp tq)):=by
 have h1:=Jp p;have h2:=Jo k hl;unfold wO nK;generalize uC p=b1 at*;generalize uB k=b2 at*;unfold cz.pv Key.pv at*;have d5:decide ((tq.length:Int)<=8)=decide (tq.length<=8):=by rw[jm];omega
 by_cases h4:tp.length<=8<;>by_cases h5:tq.length<=8
 all_goals
  simp only[h4,h5,decide_true,decide_false,cB,fp,js,qF]at d5⊢
  cases b1<;>cases b2
  all_goals
   refine eW call4 func4 ?_;exact wq @d5 @h1 @h2
theorem Sd (x:Bool×Bytes):aF 168 [fw x] (.b (!dh x)):=by
 obtain⟨n,a⟩:=x;have hv:=ib n a;have e:dh (n,a)=(aa a&& !(n&&a==[])):=rfl;rw[e];generalize (aa a&& !(n&&a==[]))=b at*;simp only[fw];refine eW call168 func168 ?_;exact z1 @hv
theorem Sg (b:Bytes):aF 172 [dE b] (.s b):=by
 unfold dE;refine eW call172 func172 ?_;exact z0
theorem Sh (m:Bytes):aF 173 [.sl [G m []], .fn (.func 174)] (E (-1)):=by
 have h:aF 174 [G m []] (.b false):=by
  refine eW call174 func174 ?_;exact z0
 refine eW call173 func173 ?_;refine Hw ?_;refine aj ?_;refine zl1 @h ?_;refine aj ?_;exact z0
theorem Su {vs:List Bytes} (sd:Bytes) {a:Int} (hl:vs.length<1000000):aF 87 [T vs sd a, .s [1],E 0] (if fA vs a then .tup [.sl [],T vs sd a,E 0]else .tup [.sl [],T [] [] 0,E 3]):=by
 have h1:=zt vs sd a [1] oO;have e:uQ vs a [1]=if fA vs a then 0 else 3:=by unfold uQ;cases fA vs a<;>rfl
 rw[e]at h1;generalize fA vs a=b at*;cases b
 ·refine eW call87 func87 ?_;exact z1 @h1
 ·refine eW call87 func87 ?_;exact Y2 @h1
theorem N4 (l:List PV):mF (l.map .v)=some l:=by
 induction l with
 |nil=>rfl
 |cons x r _=>exact lH x r
theorem Tk {P:Program} [ct P] {Q:AX->AS->Prop} {bf:Option (List Nat)} {nn:Nat} {d:Option Nat} {ops:List jV} {s:AS} {K:List Fr} {f:FuncId} {α:Type} {g:α->PV} {z n ver m:Nat} {l:List α} {gr:Bool} {el:Option TypeId} {r:PV}
  (he:qO P f [.sl (l.map g)] r) (hrow:dq g z) (hr:r.flat=true) (hg:hget s.h n=some ⟨ver,bI g l,gr,el⟩) (hm:m=l.length) (hK:RW P Q nx bf nn ops (k+1) (s.s9 d (.v r) []) (zV bf k ([AV.rs n ver 0 m z].flatMap (aX (hget s.h) 9)) [] tr) K):
  CR P Q nx bf nn nm (.v (.fn (.func f))) [.rs n ver 0 m z] d ops k s tr K:=
 gp he (by simp[aU,u4 hrow hm hg]) hr hK
theorem Lw {P:Program} [ct P] {Q:AX->AS->Prop} {bf:Option (List Nat)} {nn:Nat} {d:Option Nat} {ops:List jV} {s:AS} {K:List Fr} {f:FuncId} {α:Type} {g:α->PV} {z n ver m:Nat} {l:List α} {gr:Bool} {el:Option TypeId} {ax ay aw:AV} {x y w r:PV}
  (he:qO P f [x,y, .sl (l.map g),w] r) (hrow:dq g z) (hr:r.flat=true) (hg:hget s.h n=some ⟨ver,bI g l,gr,el⟩) (hm:m=l.length) (hx:view (hget s.h) 9 ax=some x) (hy:view (hget s.h) 9 ay=some y) (hw:view (hget s.h) 9 aw=some w) (hK:RW P Q nx bf nn ops (k+1) (s.s9 d (.v r) []) (zV bf k ([ax,ay,AV.rs n ver 0 m z,aw].flatMap (aX (hget s.h) 9)) [] tr) K):
  CR P Q nx bf nn nm (.v (.fn (.func f))) [ax,ay, .rs n ver 0 m z,aw] d ops k s tr K:=
 gp he (by simp[aU,u4 hrow hm hg,hx,hy,hw]) hr hK
def Mu (c:FuncId×List PV):PV:= .fc c.1 [] c.2
def EA:List (FuncId×List PV)->Int->Prop
 |[],e=>e=0
 |c::r,e=> ∃e1,aF c.1 c.2 (E e1)/\(e1≠0->e=e1)/\(e1=0->EA r e)
theorem MX {c:FuncId×List PV} {e:Int} (h:aF c.1 c.2 (E e)) (h0:e≠0):EA (c::r) e:=⟨e,h,fun _=>rfl,fun g=>aJ g h0⟩
theorem Cc {c:FuncId×List PV} {e:Int} (h:aF c.1 c.2 (E 0)) (g:EA r e):EA (c::r) e:=⟨0,h,fun k=>aJ rfl k,fun _=>g⟩
theorem uq (l:List (FuncId×List PV)) {e:Int} (hl:l.length<1000000) (h:EA l e):aF 30 [.sl (l.map Mu)] (E e):=by
 have l1:(l.map Mu).length=l.length:=aR ..;refine eW call30 func30 ?_;refine fq @l1 ?_;refine aq (α:=Nat) (fun i=>l.length-i) (fun i=>⟨[(6, .v (.sl (l.map Mu))),(7,E' l.length),(8,E' i)],[],_⟩) (fun i=>i<=l.length/\EA (l.drop i) e) 0 (fun _=>aB _) ⟨aT _,h⟩ ?_ ?_
 ·exact lE
 ·rintro i ⟨hi,hx⟩ R hR
  by_cases hlt:i<l.length
  ·have e1:=getD_map Mu l (0,[]) hlt;have hgo:=hR (i+1);rw[bL (0,[]) hlt]at hx;obtain⟨e0,hc,hb,hn⟩:=hx;clear hR h;generalize l.getD i (0,[])=c at*;obtain⟨f,cs⟩:=c;simp only[Mu]at e1 hc
   by_cases h0:e0=0
   ·have hgo:=hgo ⟨oO,hn h0⟩ oO;subst h0;clear hb hn;repeat' first|simp only[go_sem,seval,l1,e1]|(refine iw hc (N4 _) ?_)|refine oE ?_|apply xX<;>intro hc
    refine hgo _ ?_;exact lE
   ·obtain rfl:=hb h0;clear hn hgo;have hb1:(e==0)=false:=by simpa using h0
    have hb2:(e !=0)=true:=by simpa using h0
    repeat' first|simp only[go_sem,seval,l1,e1,hb1,hb2]|(refine iw hc (N4 _) ?_)|refine oE ?_|apply xX<;>intro hc
    all_goals rfl
  ·obtain rfl:i=l.length:=oO;rw[dO]at hx;obtain rfl:e=0:=hx;exact oo @l1
theorem zQ {g:FuncId} {c:List PV} {b:Bool} {e:Int} (h:aF g c (.b b)):aF 86 [.pt (.agg [.fc g [] c]) 0, .pt (.agg [E e]) 0] (E (if b then e else 0)):=by
 refine eW call86 func86 ?_;repeat' first|simp only[go_sem,seval]|(refine iw h (N4 _) ?_)|refine oE ?_|apply xX<;>intro hc
 all_goals simp_all
abbrev oV (cs:List PV) (el:Option TypeId):aC:=⟨0,cs.map AV.v,false,el⟩
theorem mC (g:Nat->Option Nat) (cs:List PV) (el:Option TypeId):aC.ren g (oV cs el)=some (oV cs el):=by
 have h: ∀l:List PV,AV.ren.renL g (l.map .v)=some (l.map .v):=by
  intro l
  induction l with
  |nil=>rfl
  |cons x r ih=>simp[AV.ren.renL,AV.ren,ih]
 simp[aC.ren,h]
theorem GM (k:Nat) (j:Option Nat) (s:AS) (l:List PV):aU (fN k j s) (l.map .v)=some (l.map .v):=by
 induction l with
 |nil=>rfl
 |cons x r ih=>simp[aU,ih,fN,eN,view]
theorem Ht (n nm:Nat) (f:FuncId) (cs:List PV) (el:Option TypeId) (e:Int):jU prog 33 nm [(n,oV cs el)] [.fn (.func f) [] [.p n 0 0], .v (E e)] (.fn (.func 86) [] [.p nm 0 0, .v (.pt (.agg [E e]) 0)]) [(nm,some ⟨0,[.fn (.func f) [] [.p n 0 0]],false,none⟩)]:=by
 refine jU.w mixed call33 func33 rfl (j5.1 _ _ _ (by cbv)) (j5.2 _ _ (by cbv)) (obs:=[oV cs el]) (args:=[.fn (.func f) [] [.p 0 0 0], .v (E e)]) (fs:=[none]) (j:=some 1000) (nw:=some ⟨0,[.fn (.func f) [] [.p 0 0 0]],false,none⟩) (v:= .fn (.func 86) [] [.p 1 0 0, .v (.pt (.agg [E e]) 0)]) (ns:=[n]) (obsA:=[oV cs el]) rfl ?_ (by simp) (by simp) rfl (by simp[aU,mC]) (by simp[aU,AV.ren,AV.ren.renL,cT]) (by simp[AV.ren,AV.ren.renL,gO]) (by simp[fT,outs,aC.ren,AV.ren,AV.ren.renL,gO])
 repeat' first|simp only[go_sem,seval,true_or,or_true,false_or,or_false,ai,iU,e7,iA,fN,gn,eN,pz,pI,gU,iF,dr,aK,AV.ren,AV.ren.renL,aI,GM]|refine oE ?_|apply xX<;>intro hc
 all_goals skip
theorem zR (n k nm:Nat) (hne:n≠k) (f:FuncId) (cs ds:List PV) (el dl:Option TypeId) (e:Int):jU prog 33 nm [(n,oV cs el),(k,oV ds dl)] [.fn (.func f) [] [.p n 0 0, .p k 0 0], .v (E e)] (.fn (.func 86) [] [.p nm 0 0, .v (.pt (.agg [E e]) 0)]) [(nm,some ⟨0,[.fn (.func f) [] [.p n 0 0, .p k 0 0]],false,none⟩)]:=by
 refine jU.w mixed call33 func33 rfl (j5.1 _ _ _ (by cbv)) (j5.2 _ _ (by cbv)) (obs:=[oV cs el,oV ds dl]) (args:=[.fn (.func f) [] [.p 0 0 0, .p 1 0 0], .v (E e)]) (fs:=[none,none]) (j:=some 1000) (nw:=some ⟨0,[.fn (.func f) [] [.p 0 0 0, .p 1 0 0]],false,none⟩) (v:= .fn (.func 86) [] [.p 2 0 0, .v (.pt (.agg [E e]) 0)]) (ns:=[n,k]) (obsA:=[oV cs el,oV ds dl]) rfl ?_ (by simp) (by simp[hne]) rfl (by simp[aU,mC]) (by simp[aU,AV.ren,AV.ren.renL,cT,hne,kA hne]) (by simp[AV.ren,AV.ren.renL,gO]) (by simp[fT,outs,aC.ren,AV.ren,AV.ren.renL,gO])
 repeat' first|simp only[go_sem,seval,true_or,or_true,false_or,or_false,ai,iU,e7,iA,fN,gn,eN,pz,pI,gU,iF,dr,aK,AV.ren,AV.ren.renL,aI,GM]|refine oE ?_|apply xX<;>intro hc
 all_goals skip
theorem Wh (n k m nm:Nat) (h1:n≠k) (h2:n≠m) (h3:k≠m) (f:FuncId) (cs ds es:List PV) (el dl ml:Option TypeId) (e:Int):jU prog 33 nm [(n,oV cs el),(k,oV ds dl),(m,oV es ml)] [.fn (.func f) [] [.p n 0 0, .p k 0 0, .p m 0 0], .v (E e)] (.fn (.func 86) [] [.p nm 0 0, .v (.pt (.agg [E e]) 0)]) [(nm,some ⟨0,[.fn (.func f) [] [.p n 0 0, .p k 0 0, .p m 0 0]],false,none⟩)]:=by
 refine jU.w mixed call33 func33 rfl (j5.1 _ _ _ (by cbv)) (j5.2 _ _ (by cbv)) (obs:=[oV cs el,oV ds dl,oV es ml]) (args:=[.fn (.func f) [] [.p 0 0 0, .p 1 0 0, .p 2 0 0], .v (E e)]) (fs:=[none,none,none]) (j:=some 1000) (nw:=some ⟨0,[.fn (.func f) [] [.p 0 0 0, .p 1 0 0, .p 2 0 0]],false,none⟩) (v:= .fn (.func 86) [] [.p 3 0 0, .v (.pt (.agg [E e]) 0)]) (ns:=[n,k,m]) (obsA:=[oV cs el,oV ds dl,oV es ml]) rfl ?_ (by simp) (by simp[h1,h2,h3]) rfl (by simp[aU,mC]) (by simp[aU,AV.ren,AV.ren.renL,cT,h1,h2,h3,kA h1,kA h2,kA h3]) (by simp[AV.ren,AV.ren.renL,gO]) (by simp[fT,outs,aC.ren,AV.ren,AV.ren.renL,gO])
 repeat' first|simp only[go_sem,seval,true_or,or_true,false_or,or_false,ai,iU,e7,iA,fN,gn,eN,pz,pI,gU,iF,dr,aK,AV.ren,AV.ren.renL,aI,GM]|refine oE ?_|apply xX<;>intro hc
 all_goals skip
theorem Eb (vs:List Bytes) (sd:Bytes) (a:Int) (hl:vs.length<1000000):aF 36 [T vs sd a] (.b (fA vs a)):=by
 have h:=Su sd (a:=a) hl;generalize fA vs a=b at*;cases b
 ·simp only[bQ,ak]at h;refine eW call36 func36 ?_;exact z2 @xI @h
 ·simp only[aA]at h;refine eW call36 func36 ?_;exact z2 @xI @h





structure Wp where
 leaves:List cY
 gates:List Gt
def Wp.pv (c:Wp):PV:= .agg [.sl (c.leaves.map cY.pv), .sl (c.gates.map Gt.pv)]
def Qo:cY:=⟨[],[],[]⟩
structure SzC (c:Wp):Prop where
 nl:c.leaves.length<=1000
 ng:c.gates.length<=512\/512<c.gates.length/\c.gates.length<1000000
 s: ∀s∈c.leaves,TI s
 k: ∀g∈c.gates,g.kids.length<1000000
def Vx:List cY->Bytes
 |[]=>[]
 |s::r=>match s.groups with
  |[]=>Vx r
  |g:: _=>g.2

def XC (c sl:Bytes) (s:cY) (cl:Wp):PV:= .agg [.s c, .s sl, .sl (s.groups.map gV), .sl (s.vars.map dE), .sl (s.eqs.map dS.pv), .sl (cl.leaves.map cY.pv), .sl (cl.gates.map Gt.pv), .s (Vx cl.leaves)]
theorem FQ:dq Zp 2:=⟨fun _=>rfl,fun x y hy=>by simp[Zp,fw,jB,PV.cells]at hy;rcases hy with rfl|rfl<;>rfl,fun h=>oO,fun _ x=>rfl⟩
def Nz (vs:List Bytes) (sd:Bytes) (j:Nat):Except Int (List Int)->PV
 | .ok ms=> .tup [.sl (ms.map Zp),T vs sd j,E 0]
 | .error e=> .tup [.sl [],T [] [] 0,E e]
theorem Cq {c sl b:Bytes} (hr:r9 c sl) (vb:aa b=true) (hb:b≠[]) (lb:b.length<=16):1<=yB c sl b/\3*yB c sl b<dP:=by
 have h1:=hr.c2;have h2:=hr.s2;have h3:=GF vb hb;unfold yB;refine⟨o7 (o7 oO oO) oO,?_⟩;have g1:num sl<256^8:=ba (cu sl) (cW oC hr.ls);have g2:num c<256^8:=ba (cu c) (cW oC hr.lc);have g3:num b<256^16:=ba (cu b) (cW oC lb);have g4:num sl*num c*num b<=256^8*256^8*256^16:=jq (jq (kB g1) (kB g2)) (kB g3);exact dD (lu 3 g4) (by unfold dP;decide+kernel)
theorem Jk (ms:List Int) (z:Int):bI Zp (ms++[z])=bI Zp ms++[.v (.b (zs z)), .v (.s (zb z))]:=by rw[dQ];rfl

def XQ (vs:List Bytes) (sd:Bytes):Except Int (Bytes×List Int×Nat)->PV
 | .ok (ch,rs,j)=> .tup [.agg [.s ch, .sl (rs.map Zp), .sl [], .sl []],T vs sd j,E 0]
 | .error e=> .tup [.agg [.s [], .sl [], .sl [], .sl []],T [] [] 0,E e]






def lz (b:Bytes):PV:=fw (false,b)
theorem XB:dq lz 2:=⟨fun _=>rfl,fun x y hy=>by simp[lz,fw,PV.cells]at hy;rcases hy with rfl|rfl<;>rfl,fun h=>oO,fun _ x=>rfl⟩
theorem Q3 (l:List Bytes) (x:Bytes):bI lz (l++[x])=bI lz l++[.v (.b false), .v (.s x)]:=by rw[dQ];rfl
theorem KP (l:List Bytes) (hl:l.length<4611686018427387904):aF 22 [.sl (l.map .s), .sl (l.map .s)] (.b true):=by
 have l1:(l.map PV.s).length=l.length:=aR ..;have e0: ∀n:Int,(n==n)=true:=fun n=>kR n
 refine eW call22 func22 ?_;refine fq (aN @l1 @e0) ?_;refine aq (α:=Nat) (fun i=>l.length-i) (fun i=>⟨[(0, .v (.sl (l.map .s))),(1, .v (.sl (l.map .s))),(5,E' i)],[],_⟩) (fun i=>i<=l.length) 0 (fun _=>aB _) (aT _) ?_ ?_
 ·exact lE
 ·intro i hi R hR
  by_cases hlt:i<l.length
  ·have e1:=nB hlt;have hgo:=hR (i+1) oO oO;generalize l.getD i []=x at*;have e2:(x==x)=true:=kR x;clear hR;exact ua (aN @l1 (aN @e1 @e2)) @hgo
  ·obtain rfl:i=l.length:=oO;exact oo @l1
