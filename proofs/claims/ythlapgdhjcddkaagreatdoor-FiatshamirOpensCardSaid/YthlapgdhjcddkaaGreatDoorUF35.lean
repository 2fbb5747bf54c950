/- Part of the proof. -/
import Derived.Test.YthlapgdhjcddkaaGreatDoorUF33
set_option linter.all false
set_option maxHeartbeats 16000000
set_option maxRecDepth 100000
namespace Go.Proofs.Tryz
open Go Go.Dom Go.Num
variable {c sl:Bytes}
def rB (k:Int):PV:=E k
def Gt.pv (g:Gt):PV:= .agg [E g.need, .sl (g.kids.map rB),E g.leaf]
abbrev E6 (G:List Gt):PV:= .agg [.sl (G.map Gt.pv)]
abbrev oI (n:Nat):aI:=⟨0,[.v (E n)],false,some 3⟩
abbrev oF (G:List Gt):aI:=⟨0,[.v (.sl (G.map Gt.pv))],false,none⟩
abbrev sJ (a b c d:Nat):aI:=⟨0,[.fn (.func 251) [] [.p a 0 0, .p b 0 0, .p c 0 0, .p d 0 0]],false,some 297⟩
theorem QD {G:List Gt} (hl:G.length<1000000) (hb: ∀g∈G,g.kids.length<1000000): ∀(f:Nat) (a:Int) (n c:Nat),G.length<n+f->c<=n->n<=G.length-> ∀(n1 n2 n3 n4 nm:Nat),n1≠n2->n1≠n3->n1≠n4->n2≠n3->n2≠n4->n3≠n4->jS prog 251 nm [(n1,oI n),(n2,oF G),(n3,oI c),(n4,sJ n1 n2 n3 n4)] [.v (E a), .p n1 0 0, .p n2 0 0, .p n3 0 0, .p n4 0 0] (.v (.b (eN G f a n c).1)) [(n1,some (oI (eN G f a n c).2.1)),(n3,some (oI (eN G f a n c).2.2))]:=by
 have l1:(G.map Gt.pv).length=G.length:=au ..;intro f
 induction f with
 |zero=>intro a n c h1 h2 h3;omega
 |succ f ih=>
  intro a n c hf hc hn n1 n2 n3 n4 nm h12 h13 h14 h23 h24 h34;rw[eN]
  by_cases h1:a≠n\/G.length<=n
  ·rw[af h1];clear ih
   by_cases h0:a=n
   ·have hge:G.length<=n:=h1.resolve_left (by simpa using h0)
    subst h0;have e0:((n:Int) !=(n:Int))=false:=iz _;refine jS.w mixed call251 func251 rfl (jq.1 _ _ _ (by cbv)) (jq.2 _ _ (by cbv)) (obs:=[oI n,oF G,oI c,sJ 0 1 2 3]) (args:=[.v (E n), .p 0 0 0, .p 1 0 0, .p 2 0 0, .p 3 0 0]) (fs:=[some (some (oI n)),none,some (some (oI c)),none]) (j:=none) (nw:=none) (v:= .v (.b false)) (ns:=[n1,n2,n3,n4]) (obsA:=[oI n,oF G,oI c,sJ n1 n2 n3 n4]) rfl ?_ (by simp) (by simp[h12,h13,h14,h23,h24,h34]) rfl (by simp[bA,aI.aR,AV.aR,AV.aR.renL,dq,h12,h13,h14,h23,h24,h34,aY h12,aY h13,aY h14,aY h23,aY h24,aY h34]) (by simp[bA,AV.aR,dq,h12,h13,h14,h23,h24,h34,aY h12,aY h13,aY h14,aY h23,aY h24,aY h34]) (by simp[AV.aR]) (by simp[fh,outs,aI.aR,AV.aR,AV.aR.renL,ie])
    repeat' first|simp only[go_sem,seval,true_or,or_true,false_or,or_false,ar,gX,ey,gM,fp,fH,eA,nT,om,fO,gS,dE,aK,AV.aR,AV.aR.renL,aG,l1,e0]|refine oE ?_|apply xX<;>intro hc
    all_goals skip
   ·have e0:(a !=(n:Int))=true:=bne_iff_ne.2 h0;refine jS.w mixed call251 func251 rfl (jq.1 _ _ _ (by cbv)) (jq.2 _ _ (by cbv)) (obs:=[oI n,oF G,oI c,sJ 0 1 2 3]) (args:=[.v (E a), .p 0 0 0, .p 1 0 0, .p 2 0 0, .p 3 0 0]) (fs:=[some (some (oI n)),none,some (some (oI c)),none]) (j:=none) (nw:=none) (v:= .v (.b false)) (ns:=[n1,n2,n3,n4]) (obsA:=[oI n,oF G,oI c,sJ n1 n2 n3 n4]) rfl ?_ (by simp) (by simp[h12,h13,h14,h23,h24,h34]) rfl (by simp[bA,aI.aR,AV.aR,AV.aR.renL,dq,h12,h13,h14,h23,h24,h34,aY h12,aY h13,aY h14,aY h23,aY h24,aY h34]) (by simp[bA,AV.aR,dq,h12,h13,h14,h23,h24,h34,aY h12,aY h13,aY h14,aY h23,aY h24,aY h34]) (by simp[AV.aR]) (by simp[fh,outs,aI.aR,AV.aR,AV.aR.renL,ie])
    repeat' first|simp only[go_sem,seval,true_or,or_true,false_or,or_false,ar,gX,ey,gM,fp,fH,eA,nT,om,fO,gS,dE,aK,AV.aR,AV.aR.renL,aG,l1,e0]|refine oE ?_|apply xX<;>intro hc
    all_goals skip
  rw[aa h1];have h0:a=n:=Classical.byContradiction fun h=>h1 (.inl h)
  have hlt:n<G.length:=Nat.lt_of_not_le fun h=>h1 (.inr h)
  subst h0;have e0:((n:Int) !=(n:Int))=false:=iz _;have e1:=getD_map Gt.pv G eC hlt;have hkl:=hb _ (ai eC hlt);obtain⟨g,hg⟩: ∃g,g=G.getD n eC:=⟨_,rfl⟩;rw[<-hg]at e1 hkl⊢;clear hg h1;obtain⟨need,kids,leaf⟩:=g;have l2:(kids.map rB).length=kids.length:=au ..;simp only[Gt.pv]at e1;simp only at hkl⊢
  by_cases hk:kids=[]
  ·subst hk;rw[af rfl];clear ih;have x1:(need==0)=decide (need=0):=by rw[cu];simp
   have x2:(leaf==(c:Int))=decide (leaf=(c:Int)):=by rw[cu];simp
   have x3: ∀ _:True,((c:Int)+1-1)=c:=fun _=>oO
   generalize decide (need=0)=y1 at*;generalize decide (leaf=(c:Int))=y2 at*;refine jS.w mixed call251 func251 rfl (jq.1 _ _ _ (by cbv)) (jq.2 _ _ (by cbv)) (obs:=[oI n,oF G,oI c,sJ 0 1 2 3]) (args:=[.v (E n), .p 0 0 0, .p 1 0 0, .p 2 0 0, .p 3 0 0]) (fs:=[some (some (oI (n+1))),none,some (some (oI (c+1))),none]) (j:=none) (nw:=none) (v:= .v (.b (y1&&y2))) (ns:=[n1,n2,n3,n4]) (obsA:=[oI n,oF G,oI c,sJ n1 n2 n3 n4]) rfl ?_ (by simp) (by simp[h12,h13,h14,h23,h24,h34]) rfl (by simp[bA,aI.aR,AV.aR,AV.aR.renL,dq,h12,h13,h14,h23,h24,h34,aY h12,aY h13,aY h14,aY h23,aY h24,aY h34]) (by simp[bA,AV.aR,dq,h12,h13,h14,h23,h24,h34,aY h12,aY h13,aY h14,aY h23,aY h24,aY h34]) (by simp[AV.aR]) (by simp[fh,outs,aI.aR,AV.aR,AV.aR.renL,ie])
   repeat' first|simp only[go_sem,seval,true_or,or_true,false_or,or_false,ar,gX,ey,gM,fp,fH,eA,nT,om,fO,gS,dE,aK,AV.aR,AV.aR.renL,aG,l1,e0,e1,x1,x2,x3 oT]|refine oE ?_|apply xX<;>intro hc
   all_goals exact⟨by rw[hc];rfl,rfl,rfl⟩
  rw[aa hk];have hkp: ∀ _:True,((kids.length:Int)==0)=false:=fun _=>by
   rw[du];intro h;exact hk (dt.1 oO)
  by_cases h2:need<1\/need>kids.length\/leaf≠0
  ·rw[af h2];clear ih
   by_cases y1:need<1
   ·refine jS.w mixed call251 func251 rfl (jq.1 _ _ _ (by cbv)) (jq.2 _ _ (by cbv)) (obs:=[oI n,oF G,oI c,sJ 0 1 2 3]) (args:=[.v (E n), .p 0 0 0, .p 1 0 0, .p 2 0 0, .p 3 0 0]) (fs:=[some (some (oI (n+1))),none,some (some (oI c)),none]) (j:=none) (nw:=none) (v:= .v (.b false)) (ns:=[n1,n2,n3,n4]) (obsA:=[oI n,oF G,oI c,sJ n1 n2 n3 n4]) rfl ?_ (by simp) (by simp[h12,h13,h14,h23,h24,h34]) rfl (by simp[bA,aI.aR,AV.aR,AV.aR.renL,dq,h12,h13,h14,h23,h24,h34,aY h12,aY h13,aY h14,aY h23,aY h24,aY h34]) (by simp[bA,AV.aR,dq,h12,h13,h14,h23,h24,h34,aY h12,aY h13,aY h14,aY h23,aY h24,aY h34]) (by simp[AV.aR]) (by simp[fh,outs,aI.aR,AV.aR,AV.aR.renL,ie])
    repeat' first|simp only[go_sem,seval,true_or,or_true,false_or,or_false,ar,gX,ey,gM,fp,fH,eA,nT,om,fO,gS,dE,aK,AV.aR,AV.aR.renL,aG,l1,l2,e0,e1,hkp oT]|refine oE ?_|apply xX<;>intro hc
    all_goals rfl
   by_cases y2:need>kids.length
   ·refine jS.w mixed call251 func251 rfl (jq.1 _ _ _ (by cbv)) (jq.2 _ _ (by cbv)) (obs:=[oI n,oF G,oI c,sJ 0 1 2 3]) (args:=[.v (E n), .p 0 0 0, .p 1 0 0, .p 2 0 0, .p 3 0 0]) (fs:=[some (some (oI (n+1))),none,some (some (oI c)),none]) (j:=none) (nw:=none) (v:= .v (.b false)) (ns:=[n1,n2,n3,n4]) (obsA:=[oI n,oF G,oI c,sJ n1 n2 n3 n4]) rfl ?_ (by simp) (by simp[h12,h13,h14,h23,h24,h34]) rfl (by simp[bA,aI.aR,AV.aR,AV.aR.renL,dq,h12,h13,h14,h23,h24,h34,aY h12,aY h13,aY h14,aY h23,aY h24,aY h34]) (by simp[bA,AV.aR,dq,h12,h13,h14,h23,h24,h34,aY h12,aY h13,aY h14,aY h23,aY h24,aY h34]) (by simp[AV.aR]) (by simp[fh,outs,aI.aR,AV.aR,AV.aR.renL,ie])
    repeat' first|simp only[go_sem,seval,true_or,or_true,false_or,or_false,ar,gX,ey,gM,fp,fH,eA,nT,om,fO,gS,dE,aK,AV.aR,AV.aR.renL,aG,l1,l2,e0,e1,hkp oT]|refine oE ?_|apply xX<;>intro hc
    all_goals rfl
   ·have y3:leaf≠0:=(h2.resolve_left y1).resolve_left y2;have y3:(leaf !=0)=true:=bne_iff_ne.2 y3;refine jS.w mixed call251 func251 rfl (jq.1 _ _ _ (by cbv)) (jq.2 _ _ (by cbv)) (obs:=[oI n,oF G,oI c,sJ 0 1 2 3]) (args:=[.v (E n), .p 0 0 0, .p 1 0 0, .p 2 0 0, .p 3 0 0]) (fs:=[some (some (oI (n+1))),none,some (some (oI c)),none]) (j:=none) (nw:=none) (v:= .v (.b false)) (ns:=[n1,n2,n3,n4]) (obsA:=[oI n,oF G,oI c,sJ n1 n2 n3 n4]) rfl ?_ (by simp) (by simp[h12,h13,h14,h23,h24,h34]) rfl (by simp[bA,aI.aR,AV.aR,AV.aR.renL,dq,h12,h13,h14,h23,h24,h34,aY h12,aY h13,aY h14,aY h23,aY h24,aY h34]) (by simp[bA,AV.aR,dq,h12,h13,h14,h23,h24,h34,aY h12,aY h13,aY h14,aY h23,aY h24,aY h34]) (by simp[AV.aR]) (by simp[fh,outs,aI.aR,AV.aR,AV.aR.renL,ie])
    repeat' first|simp only[go_sem,seval,true_or,or_true,false_or,or_false,ar,gX,ey,gM,fp,fH,eA,nT,om,fO,gS,dE,aK,AV.aR,AV.aR.renL,aG,l1,l2,e0,e1,hkp oT,y3]|refine oE ?_|apply xX<;>intro hc
    all_goals rfl
  rw[aa h2];have y1: ¬need<1:=fun h=>h2 (.inl h)
  have y2: ¬need>kids.length:=fun h=>h2 (.inr (.inl h))
  have y3:(leaf !=0)=false:=by rw[bne_eq_false_iff_eq];exact Classical.byContradiction fun h=>h2 (.inr (.inr h))
  have hge:=Eo G f;have hle:=qj G f;have hct:=yG G f;obtain⟨v,hv⟩: ∃v,v=eN G f:=⟨_,rfl⟩;rw[<-hv]at ih hge hle hct⊢;obtain⟨r,hr⟩: ∃r,r=ix v kids (n+1) c:=⟨_,rfl⟩;rw[<-hr];refine jS.w mixed call251 func251 rfl (jq.1 _ _ _ (by cbv)) (jq.2 _ _ (by cbv)) (obs:=[oI n,oF G,oI c,sJ 0 1 2 3]) (args:=[.v (E n), .p 0 0 0, .p 1 0 0, .p 2 0 0, .p 3 0 0]) (fs:=[some (some (oI r.2.1)),none,some (some (oI r.2.2)),none]) (j:=none) (nw:=none) (v:= .v (.b r.1)) (ns:=[n1,n2,n3,n4]) (obsA:=[oI n,oF G,oI c,sJ n1 n2 n3 n4]) rfl ?_ (by simp) (by simp[h12,h13,h14,h23,h24,h34]) rfl (by simp[bA,aI.aR,AV.aR,AV.aR.renL,dq,h12,h13,h14,h23,h24,h34,aY h12,aY h13,aY h14,aY h23,aY h24,aY h34]) (by simp[bA,AV.aR,dq,h12,h13,h14,h23,h24,h34,aY h12,aY h13,aY h14,aY h23,aY h24,aY h34]) (by simp[AV.aR]) (by simp[fh,outs,aI.aR,AV.aR,AV.aR.renL,ie])
  repeat' first|simp only[go_sem,seval,true_or,or_true,false_or,or_false,ar,gX,ey,gM,fp,fH,eA,nT,om,fO,gS,dE,aK,AV.aR,AV.aR.renL,aG,l1,l2,e0,e1,hkp oT,y3]|refine oE ?_|apply xX<;>intro hc
  refine ah (α:=Nat×Nat×Nat) (fun x=>kids.length-x.1) (fun x=>⟨[(4, .p 3 0 0),(60, .v (.sl (kids.map rB))),(61,E' kids.length),(62,E' x.1)],[(0,oI x.2.1),(1,oF G),(2,oI x.2.2),(3,sJ 0 1 2 3)],_⟩) (fun x=>x.1<=kids.length/\n+1<=x.2.1/\x.2.1<=G.length/\x.2.2<=x.2.1/\ix v (kids.drop x.1) x.2.1 x.2.2=r) (0,n+1,c) (fun _=>aA _) ⟨aD _,aA _,by simp only;omega,by simp only;omega,hr.symm⟩ ?_ ?_
  ·exact lE
  ·rintro⟨j,n',c'⟩ ⟨hj,hn1,hn2,hc2,hx⟩ R hR;simp only at hj hn1 hn2 hc2 hx
   by_cases hlt2:j<kids.length
   ·have e2:=getD_map rB kids 0 hlt2;rw[aE 0 hlt2,ix]at hx;generalize kids.getD j 0=k at*;have hih:=fun nm=>ih k n' c' oO hc2 hn2 0 1 2 3 nm oC oC oC oC oC oC
    have a1:=hge k n' c';have a2:=hle k n' c' hn2;have a3:=hct k n' c';simp only[rB]at e2;generalize v k n' c'=w at*;obtain⟨ok,n2,c2⟩:=w;simp only at hx hih a1 a2 a3;cases ok
    ·simp only[cE,aB]at hx;subst hx;clear hR ih hge hle hct hr;repeat' first|simp only[go_sem,seval,true_or,or_true,false_or,or_false,ar,gX,ey,gM,fp,fH,eA,nT,om,fO,gS,dE,aK,AV.aR,AV.aR.renL,aG,l2,e2]|(refine bK (hih _) (by simp[az]) ?_)|refine oE ?_|apply xX<;>intro hc
     all_goals skip
    ·simp only[aC]at hx;have hgo:=hR (j+1,n2,c2) ⟨by simp only;omega,by simp only;omega,a2,by simp only;omega,hx⟩ (by simp only;omega)
     simp only at hgo;clear hR ih hge hle hct hr;repeat' first|simp only[go_sem,seval,l2,e2]|(refine bK (hih _) (by simp[az]) ?_)|refine oE ?_|apply xX<;>intro hc
     refine hgo _ ?_;exact lE
   ·obtain rfl:j=kids.length:=oO;rw[bw,ix]at hx;subst hx;clear hR ih hge hle hct hr;repeat' first|simp only[go_sem,seval,true_or,or_true,false_or,or_false,ar,gX,ey,gM,fp,fH,eA,nT,om,fO,gS,dE,aK,AV.aR,AV.aR.renL,aG,l2]|refine oE ?_|apply xX<;>intro hc
    all_goals skip
def BJ (G:List Gt):Nat×Bool:=if G=[]then(0,true)else((eN G (G.length+1) 0 0 0).2.2,(eN G (G.length+1) 0 0 0).1&&(decide ((eN G (G.length+1) 0 0 0).2.1=G.length)&&decide ((eN G (G.length+1) 0 0 0).2.2<=256)))
theorem OL (G:List Gt):DI G=if(BJ G).2 then some (BJ G).1 else none:=by
 unfold DI BJ
 by_cases h:G=[]
 ·rw[af h,af h];rfl
 ·rw[aa h,aa h];have h1:=Bt G (G.length+1) 0 0;rw[show((0:Nat):Int)=0 from rfl]at h1
  rw[<-h1];generalize eN G (G.length+1) 0 0 0=x;obtain⟨ok,n,c⟩:=x;cases ok
  ·rfl
  ·simp only[Q3,aC,bE,bc,a8]
theorem Ac {G:List Gt} (hl:G.length<1000000) (hb: ∀g∈G,g.kids.length<1000000):aH 155 [E6 G] (.tup [E (BJ G).1, .b (BJ G).2]):=by
 have l1:(G.map Gt.pv).length=G.length:=au ..;unfold BJ
 by_cases h:G=[]
 ·subst h;rw[af rfl];refine eW call155 func155 ?_;exact z0
 rw[aa h];have hz: ∀ _:True,((G.length:Int)==0)=false:=fun _=>by
  rw[du];intro e;exact h (dt.1 oO)
 have hv:=fun a b c d nm h1 h2 h3 h4 h5 h6=>QD hl hb (G.length+1) 0 0 0 oO (aA _) (aD _) a b c d nm h1 h2 h3 h4 h5 h6
 have hle:=qj G (G.length+1) 0 0 0 (aD _);have hct:=yG G (G.length+1) 0 0 0;generalize eN G (G.length+1) 0 0 0=x at*;obtain⟨ok,n,c⟩:=x;simp only at hv hle hct⊢;have x1:((n:Int)==(G.length:Int))=decide (n=G.length):=by rw[cu,fK,a8];omega
 have x2:decide ((c:Int)<=256)=decide (c<=256):=by rw[fk];omega
 generalize decide (n=G.length)=y1 at*;generalize decide (c<=256)=y2 at*;refine eW call155 func155 ?_;repeat' first|simp only[go_sem,seval,l1,hz oT,x1,x2]|(refine bK (hv _ _ _ _ _ oC oC oC oC oC oC) (by simp[az]) ?_)|refine oE ?_|apply xX<;>intro hc
 all_goals (clear x1 x2;subst_vars;rfl)
theorem Sv {G:List Gt} (hl:G.length<1000000) (hb: ∀g∈G,g.kids.length<1000000) (n:Int):aH 147 [E6 G,E n] (E (xT G n)):=by
 have l1:(G.map Gt.pv).length=G.length:=au ..;have hv:=Ac hl hb;unfold xT;rw[OL];generalize BJ G=x at*;obtain⟨c,ok⟩:=x;simp only at hv⊢
 by_cases h1:(512:Int)<G.length\/n<0\/256<n
 ·rw[af h1]
  by_cases a1:(512:Int)<G.length
  ·refine eW call147 func147 ?_;exact fz @l1
  by_cases a2:n<0
  ·refine eW call147 func147 ?_;exact fz @l1
  ·have a3:n>256:=(h1.resolve_left a1).resolve_left a2;refine eW call147 func147 ?_;exact fz @l1
 rw[aa h1];have a1: ¬(G.length:Int)>512:=fun h=>h1 (.inl h)
 have a2: ¬n<0:=fun h=>h1 (.inr (.inl h))
 have a3: ¬n>256:=fun h=>h1 (.inr (.inr h))
 cases ok
 ·simp only[cE,aB];refine eW call147 func147 ?_;exact iE @l1 @hv
 ·simp only[aC]
  by_cases hc:(c:Int)=n
  ·rw[af hc];have e:((c:Int) !=n)=false:=by rw[hc];exact iz _
   refine eW call147 func147 ?_;exact iE (aN @l1 @e) @hv
  ·rw[aa hc];have e:((c:Int) !=n)=true:=bne_iff_ne.2 hc;refine eW call147 func147 ?_;exact iE (aN @l1 @e) @hv
structure ik where
 leaves:List aT
 gates:List Gt
def ik.pv (c:ik):PV:= .agg [.sl (c.leaves.map aT.pv), .sl (c.gates.map Gt.pv)]
def cC:aT:=⟨[],[],[]⟩
structure QW (c:ik):Prop where
 nl:c.leaves.length<=1000
 ng:c.gates.length<=512\/512<c.gates.length/\c.gates.length<1000000
 s: ∀s∈c.leaves,qH s
 k: ∀g∈c.gates,g.kids.length<1000000
def bY:List aT->Bytes
 |[]=>[]
 |s::r=>match s.groups with
  |[]=>bY r
  |g:: _=>g.2
def BM (q:Bytes) (g:Bytes×Bytes):Bool:=g.2==[]|| !(g.2==q)
def ud (q:Bytes) (s:aT):Bool:=(decide (s.groups.length=0)||s.vars.any fun b=> !(b==[]))||s.groups.any (BM q)
def uI:List aT->Int
 |[]=>0
 |s::r=>if mP s≠0 then mP s else uI r
def HF (q:Bytes) (g:Gt):Bool:=decide (g.kids.length<num q)
def kX (c:ik):Int:=if xT c.gates c.leaves.length≠0 then xT c.gates c.leaves.length else if uI c.leaves≠0 then uI c.leaves else if c.leaves=[]then 0 else if c.leaves.any (ud (bY c.leaves))then 10 else if fq (bY c.leaves)≠0 then fq (bY c.leaves)else if !ia (num (bY c.leaves))then 12 else if c.gates.all (HF (bY c.leaves))then 0 else 6
theorem wq {ls:List aT} {G:List Gt} (hl:ls.length<1000000):aH 118 [.agg [.sl (ls.map aT.pv), .sl (G.map Gt.pv)]] (.s (bY ls)):=by
 have l1:(ls.map aT.pv).length=ls.length:=au ..;refine eW call118 func118 ?_;refine dh @l1 ?_;refine ah (α:=Nat) (fun i=>ls.length-i) (fun i=>⟨[(1, .p 1000 0 0),(8, .v (.sl (ls.map aT.pv))),(9,E' ls.length),(10,E' i)],[(1000,⟨0,[.v (.sl (ls.map aT.pv)), .v (.sl (G.map Gt.pv))],false,none⟩)],_⟩) (fun i=>i<=ls.length/\bY (ls.drop i)=bY ls) 0 (fun _=>aA _) ⟨aD _,rfl⟩ ?_ ?_
 ·exact lE
 ·rintro i ⟨hi,ho⟩ R hR
  by_cases hit:i<ls.length
  ·have e2:=getD_map aT.pv ls cC hit;have hgo:=fun h=>hR (i+1) ⟨oO,h⟩ oO
   rw[aE cC hit]at ho;obtain⟨s,hs⟩: ∃s,s=ls.getD i cC:=⟨_,rfl⟩;rw[<-hs]at e2 ho;clear hs hR;obtain⟨gs,vs,es⟩:=s;have l2:(gs.map cz).length=gs.length:=au ..;simp only[aT.pv]at e2
   cases gs with
   |nil=>
    simp only[bY]at ho;simp only[cb]at e2;refine Vq (aN @l1 @e2) ?_;refine hgo ho _ ?_;exact lE
   |cons g r=>
    obtain⟨m,o⟩:=g;simp only[bY]at ho;rw[<-ho];have hp: ∀ _:True,(0:Int)<((r.length+1:Nat):Int):=fun _=>oO
    have l3:(r.map cz).length=r.length:=au ..;simp only[b8,cz]at e2;clear hgo l2;exact QS (aN @l1 (aN @l3 (aN @e2 (hp oT))))
  ·obtain rfl:i=ls.length:=oO;rw[bw]at ho;rw[<-ho];exact fz @l1
theorem ab7 (b:Bytes):aH 239 [bO b] (.b (!(b==[]))):=by
 simp only[bO];refine eW call239 func239 ?_;repeat' first|simp only[go_sem,seval,bne]|refine oE ?_|apply xX<;>intro hc
 all_goals rfl
theorem ab8 (q:Bytes) (g:Bytes×Bytes):aH 241 [cz g, .pt (.agg [.s q]) 0] (.b (BM q g)):=by
 obtain⟨m,o⟩:=g;simp only[cz,BM];refine eW call241 func241 ?_;repeat' first|simp only[go_sem,seval,bne]|refine oE ?_|apply xX<;>intro hc
 all_goals simp_all[bne]
theorem Kk {ls:List aT} {G:List Gt} (hl:ls.length<1000000) (hb: ∀s∈ls,qH s) (q:Bytes):aH 149 [.agg [.sl (ls.map aT.pv), .sl (G.map Gt.pv)], .s q] (E (if ls.any (ud q)then 10 else 0)):=by
 have l1:(ls.map aT.pv).length=ls.length:=au ..;refine eW call149 func149 ?_;refine dh @l1 ?_;refine ah (α:=Nat) (fun i=>ls.length-i) (fun i=>⟨[(2, .p 1000 0 0),(3, .p 1001 0 0),(8, .v (.sl (ls.map aT.pv))),(9,E' ls.length),(10,E' i)],[(1000,⟨0,[.v (.sl (ls.map aT.pv)), .v (.sl (G.map Gt.pv))],false,none⟩),(1001,⟨0,[.v (.s q)],false,none⟩)],_⟩) (fun i=>i<=ls.length/\(ls.drop i).any (ud q)=ls.any (ud q)) 0 (fun _=>aA _) ⟨aD _,rfl⟩ ?_ ?_
 ·exact lE
 ·rintro i ⟨hi,ho⟩ R hR;rw[<-ho]
  by_cases hit:i<ls.length
  ·have e2:=getD_map aT.pv ls cC hit;have hsz:=hb _ (ai cC hit);have hgo:=fun h=>hR (i+1) ⟨oO,h⟩ oO
   rw[<-ho]at hgo;rw[aE cC hit,List.any_cons]at hgo⊢;obtain⟨s,hs⟩: ∃s,s=ls.getD i cC:=⟨_,rfl⟩;rw[<-hs]at e2 hsz hgo⊢;clear hs hR ho hb;have h1:=pj s.vars _ _ (by have:=hsz.nv;omega) ab7
   have h2:=nY s.groups _ _ _ (by have:=hsz.ng;omega) fun x _=>ab8 q x
   obtain⟨gs,vs,es⟩:=s;have l2:(gs.map cz).length=gs.length:=au ..;simp only[aT.pv]at e2;unfold ud at hgo⊢;simp only at h1 h2 hgo⊢;generalize (vs.any fun b=> !(b==[]))=bv at*
   generalize gs.any (BM q)=bo at*;have d0:((gs.length:Int)==0)=decide (gs.length=0):=by rw[cu,fK,a8];omega
   generalize decide (gs.length=0)=b0 at*;cases b0
   ·cases bv
    ·cases bo
     ·simp only[Bool.or_self,eH]at hgo⊢;have hgo:=hgo oT;repeat' first|simp only[go_sem,seval,l1,l2,e2,d0,aW]|refine cP h1 ?_|refine cV h2 ?_|refine oE ?_|apply xX<;>intro hc
      refine hgo _ ?_;exact lE
     ·simp only[vw,iI,aC];repeat' first|simp only[go_sem,seval,l1,l2,e2,d0,aW]|refine cP h1 ?_|refine cV h2 ?_|refine oE ?_|apply xX<;>intro hc
      all_goals rfl
    ·simp only[vw,iI,aC];repeat' first|simp only[go_sem,seval,l1,l2,e2,d0,aW]|refine cP h1 ?_|refine cV h2 ?_|refine oE ?_|apply xX<;>intro hc
     all_goals rfl
   ·simp only[iI,aC];repeat' first|simp only[go_sem,seval,l1,l2,e2,d0,aW]|refine cP h1 ?_|refine cV h2 ?_|refine oE ?_|apply xX<;>intro hc
    all_goals rfl
  ·obtain rfl:i=ls.length:=oO;rw[bw];exact fz @l1
theorem AT {q:Bytes} (h:fq q=0):ae q=true/\q.length<=8:=by
 unfold fq at h
 split at h
 ·rename_i h1
  split at h
  ·exact⟨h1,by assumption⟩
  ·cases h
 ·cases h
theorem IV {c:ik} (hc:QW c):aH 71 [c.pv] (E (kX c)):=by
 obtain⟨nl,ng,hs,hk⟩:=hc;obtain⟨ls,G⟩:=c;unfold ik.pv kX;simp only at nl ng hs hk⊢;have hG:G.length<1000000:=oO;have l1:(ls.map aT.pv).length=ls.length:=au ..;have l2:(G.map Gt.pv).length=G.length:=au ..;have c1:=Sv hG hk (ls.length:Int);have c2:=wq (ls:=ls) (G:=G) oO;have c3:=Kk (ls:=ls) (G:=G) oO hs (bY ls);have c4:=CH (bY ls);have hpv:fq (bY ls)=0->ae (bY ls)=true/\(bY ls).length<=8:=AT;generalize xT G (ls.length:Int)=fe at*
 by_cases hf:fe=0
 case neg=>
  rw[af hf];have hb1:(fe !=0)=true:=by simpa using hf
  refine eW call71 func71 ?_;exact iE (aN @l1 @hb1) @c1
 subst hf;rw[aa (by simp)]
 refine eW call71 func71 ?_;refine jA @l1 @c1 ?_;refine ah (α:=Nat) (fun i=>ls.length-i) (fun i=>⟨[(1, .p 1000 0 0),(23, .v (.sl (ls.map aT.pv))),(24,E' ls.length),(25,E' i)],[(1000,⟨0,[.v (.sl (ls.map aT.pv)), .v (.sl (G.map Gt.pv))],false,none⟩)],_⟩) (fun i=>i<=ls.length/\uI (ls.drop i)=uI ls) 0 (fun _=>aA _) ⟨aD _,rfl⟩ ?_ ?_
 ·exact lE
 ·rintro i ⟨hi,ho⟩ R hR
  by_cases hit:i<ls.length
  ·have e2:=getD_map aT.pv ls cC hit;have c5:=yu (hs _ (ai cC hit));have hgo:=fun h=>hR (i+1) ⟨oO,h⟩ oO
   rw[aE cC hit]at ho;obtain⟨s,hss⟩: ∃s,s=ls.getD i cC:=⟨_,rfl⟩;rw[<-hss]at e2 ho c5;clear hss hR c1 c2 c3 c4 hpv;rw[uI]at ho;generalize mP s=se at*;obtain⟨gs,vs,es⟩:=s;simp only[aT.pv]at e2 c5
   by_cases h0:se=0
   ·subst h0;rw[aa (by simp)]at ho
    refine gR (aN @l1 @e2) @c5 ?_;refine hgo ho _ ?_;exact lE
   ·rw[af h0]at ho;have hb1:(se !=0)=true:=by simpa using h0
    subst ho;rw[af h0];exact iE (aN @l1 (aN @e2 @hb1)) @c5
  ·obtain rfl:i=ls.length:=oO;rw[bw,uI]at ho;rw[<-ho,aa (by simp)]
   clear hR ho hs
   by_cases h0:ls=[]
   ·subst h0;rw[af rfl];exact fz @l1
   have hz: ∀ _:True,((ls.length:Int)==0)=false:=fun _=>by
    rw[du];intro e;exact h0 (dt.1 oO)
   rw[aa h0];generalize ls.any (ud (bY ls))=bk at*;generalize bY ls=q at*;cases bk
   case true=>
    rw[af rfl]at c3⊢;exact vV (aN @l1 (hz oT)) @c2 @c3
   rw[aa (by simp)]at c3⊢
   by_cases hpe:fq q=0
   case neg=>
    rw[af hpe];generalize fq q=pe at*;have hb1:(pe !=0)=true:=by simpa using hpe
    exact ry (aN @l1 (aN (hz oT) @hb1)) @c2 @c3 @c4 oT
   obtain⟨vq,lq⟩:=hpv hpe;rw[hpe,vq,aQ lq,bE,bE]at c4;rw[aa (by simpa using hpe)]
   have hqn:=ga lq
   cases hM:ia (num q)
   ·rw[hM]at c4;rw[af (show(!false)=true from rfl)]
    exact ry (aN @l1 (hz oT)) @c2 @c3 @c4 oT
   rw[hM]at c4;rw[aa (by simp)]
   refine mK (aN @l1 (aN @l2 (hz oT))) @c2 @c3 @c4 oT ?_;refine ah (α:=Nat) (fun j=>G.length-j) (fun j=>⟨[(7, .v (.s q)),(59, .v (.sl (G.map Gt.pv))),(60,E' G.length),(61,E' j)],[],_⟩) (fun j=>j<=G.length/\(G.drop j).all (HF q)=G.all (HF q)) 0 (fun _=>aA _) ⟨aD _,rfl⟩ ?_ ?_
   ·(refine AS.Le.of (by first|decide|omega) ?_ ?_<;>simp[cU,cT,aO,az,AV.bd,AV.bd.bdL,u8,aj,ak,an])
    all_goals rfl
   ·rintro j ⟨hj,ha⟩ R hR;rw[<-ha]
    by_cases hjt:j<G.length
    ·have e2:=getD_map Gt.pv G eC hjt;have hkl:=hk _ (ai eC hjt);have hgo:=fun h=>hR (j+1) ⟨oO,h⟩ oO
     rw[<-ha]at hgo;rw[aE eC hjt,List.all_cons]at hgo⊢;obtain⟨g,hg⟩: ∃g,g=G.getD j eC:=⟨_,rfl⟩;rw[<-hg]at e2 hkl hgo⊢;clear hg hR ha c1 c2 c3 c4;obtain⟨need,kids,leaf⟩:=g;have l3:(kids.map rB).length=kids.length:=au ..;simp only[Gt.pv]at e2;simp only[HF]at hkl hgo⊢;have c6:=iC kids.length oO;have c7:=nA (x:=b7 kids.length) (y:=q) (vN oO) vq;rw[bG]at c7;have x1:decide (a7 kids.length (num q)>=0)= !decide (kids.length<num q):=WQ kids.length (num q);generalize a7 kids.length (num q)=cm at*
     by_cases hbk:kids.length<num q
     ·simp only[aQ hbk,bE,dy]at hgo x1⊢;have hgo:=hgo oT;clear hbk;exact yd (aN @l2 (aN @l3 (aN @e2 @x1))) @hgo @c6 @c7
     ·simp only[aS hbk,br,dW,cE,aB]at x1⊢;clear hgo hbk;exact vV (aN @l2 (aN @l3 (aN @e2 @x1))) @c6 @c7
    ·obtain rfl:j=G.length:=oO;rw[bw];exact fz @l2


def ij (c sl:Bytes) (s:aT) (cl:ik):Int:=if mq c sl s≠0 then mq c sl s else if kX cl≠0 then kX cl else if cl.leaves=[]then 0 else if num (bY cl.leaves)<num c then 2 else 0
def XC (c sl:Bytes) (s:aT) (cl:ik):PV:= .agg [.s c, .s sl, .sl (s.groups.map cz), .sl (s.vars.map bO), .sl (s.eqs.map bZ.pv), .sl (cl.leaves.map aT.pv), .sl (cl.gates.map Gt.pv), .s (bY cl.leaves)]
abbrev XE:PV:= .agg [.s [], .s [], .sl [], .sl [], .sl [], .sl [], .sl [], .s []]
def Qa (c sl:Bytes) (s:aT) (cl:ik):PV:=if ij c sl s cl=0 then .tup [XC c sl s cl,E 0]else .tup [XE,E (ij c sl s cl)]
theorem Hv {s:aT} (h:mq c sl s=0):ae c=true:=by
 unfold mq at h
 cases hv:ae c with
 |true=>rfl
 |false=>
  rw[hv,br,af (show(!false)=true from rfl)]at h
  exact aJ h oC
theorem Hy {cl:ik} (h:kX cl=0) (hl:cl.leaves≠[]):ae (bY cl.leaves)=true/\(bY cl.leaves).length<=8/\ ∀s∈cl.leaves,ud (bY cl.leaves) s=false:=by
 unfold kX at h;rw[aa hl]at h
 split at h
 ·rename_i h1;exact aJ h h1
 split at h
 ·rename_i h1;exact aJ h h1
 split at h
 ·cases h
 rename_i hb
 split at h
 ·rename_i h1;exact aJ h h1
 rename_i hp;obtain⟨v,l⟩:=AT (Classical.not_not.1 hp);refine⟨v,l,fun s hs=> ?_⟩
 cases hbk:ud (bY cl.leaves) s with
 |false=>rfl
 |true=>exact aJ (m9.2 ⟨s,hs,hbk⟩) hb
theorem DN (lc:c.length<=8) (ls:sl.length<=8) {s:aT} (hb:qH s) {cl:ik} (hc:QW cl):aH 28 [.agg [.s c, .s sl],s.pv,cl.pv] (Qa c sl s cl):=by
 unfold Qa ij
 by_cases hE:mq c sl s=0
 case neg=>
  have h1:=aaE hb hE;rw[af hE,aa hE];generalize mq c sl s=e at*;have hb1:(e !=0)=true:=by simpa using hE
  unfold aT.pv ik.pv at*;refine eW call28 func28 ?_;exact iE @hb1 @h1
 have h1:=uW (rD lc ls hb hE);rw[show(if mq c sl s≠0 then mq c sl s else if kX cl≠0 then kX cl else if cl.leaves=[]then 0 else if num (bY cl.leaves)<num c then 2 else 0)=(if kX cl≠0 then kX cl else if cl.leaves=[]then 0 else if num (bY cl.leaves)<num c then 2 else 0)from aa (by simpa using hE)]
 have h2:=IV hc;have vc:=Hv hE;generalize (s.vars.map fun b=>N (lM (ba s.groups) c sl b))=B1 at*
 generalize (s.vars.map fun b=>N (lR (ba s.groups) c sl b))=B2 at*
 by_cases hC:kX cl=0
 case neg=>
  rw[af hC,aa hC];generalize kX cl=e at*;have hb1:(e !=0)=true:=by simpa using hC
  unfold aT.pv ik.pv at*;refine eW call28 func28 ?_;exact vV @hb1 @h1 @h2
 rw[show(if kX cl≠0 then kX cl else if cl.leaves=[]then 0 else if num (bY cl.leaves)<num c then 2 else 0)=(if cl.leaves=[]then 0 else if num (bY cl.leaves)<num c then 2 else 0)from aa (by simpa using hC)]
 have h3:=Hy hC;rw[hC]at h2;unfold XC;clear hE hC hc hb;obtain⟨lv,G⟩:=cl;simp only at h3⊢;have l1:(lv.map aT.pv).length=lv.length:=au ..
 cases lv with
 |nil=>
  rw[af rfl,af rfl];unfold aT.pv ik.pv at*;simp only[cb]at*;refine eW call28 func28 ?_;exact z2 @h1 @h2
 |cons s0 r=>
  obtain⟨vq,lq,hk⟩:=h3 (by simp)
  have hk0:=hk s0 mS;obtain⟨gs,vs,es⟩:=s0
  cases gs with
  |nil=>cases hk0
  |cons g gr=>
   obtain⟨m,o⟩:=g;have hq:bY (⟨(m,o)::gr,vs,es⟩::r)=o:=rfl;have vq:ae o=true:=vq;have hE2:(if(⟨(m,o)::gr,vs,es⟩::r:List aT)=[]then(0:Int)else if num (bY (⟨(m,o)::gr,vs,es⟩::r))<num c then 2 else 0)=if num o<num c then 2 else 0:=aa (by simp)
   rw[hE2];simp only[hq];have c1:=nA vc vq;have x1:=I1 (num c) (num o);have hp: ∀ _:True,(0:Int)<((r.length+1:Nat):Int):=fun _=>oO
   have hp2: ∀ _:True,(0:Int)<((gr.length+1:Nat):Int):=fun _=>oO
   have hp3:(((r.length+1:Nat):Int)>0)=True:=eq_true (hp oT);have l2:(r.map aT.pv).length=r.length:=au ..;have l3:(gr.map cz).length=gr.length:=au ..;clear l1 hk hk0 h3 hq hE2 lq;unfold ik.pv at h2⊢;simp only[b8,aT.pv,cz]at h1 h2⊢
   by_cases hlt:num o<num c
   ·rw[af hlt,aa (show¬(2:Int)=0 by decide)]
    rw[aQ hlt]at x1;generalize a7 (num c) (num o)=cm at*;refine eW call28 func28 ?_;exact ry (aN @l2 (aN @l3 (aN (hp oT) (aN (hp2 oT) (aN @hp3 @x1))))) @h1 @h2 @c1 oT
   ·rw[aa hlt,af rfl];rw[aS hlt]at x1;generalize a7 (num c) (num o)=cm at*;refine eW call28 func28 ?_;exact ry (aN @l2 (aN @l3 (aN (hp oT) (aN (hp2 oT) (aN @hp3 @x1))))) @h1 @h2 @c1 oT
end Go.Proofs.Tryz
namespace Go.Dom
def iU (G:List Gt):Nat->Nat
 |0=>0
 |j+1=>iU G j+if(G.getD j eC).kids=[]then 1 else 0
theorem wH (G:List Gt): ∀{a b:Nat},a<=b->iU G a<=iU G b:=by
 intro a b h
 induction h with
 |refl=>exact aA _
 |step _ ih=>exact fw ih (ER _ _)
def Zc (G:List Gt) (n c e j:Nat):Prop:=
 ((G.getD j eC).kids=[]->(G.getD j eC).leaf+iU G n=c+iU G j)/\
 ((G.getD j eC).kids≠[]->1<=(G.getD j eC).need/\(G.getD j eC).need<=(G.getD j eC).kids.length/\(G.getD j eC).kids.length+iU G j<=iU G e/\ ∀k∈(G.getD j eC).kids,(j:Int)<k/\k<e)
structure zC (G:List Gt) (n c:Nat) (r:Nat×Nat):Prop where
 le:n<=r.1
 ct:r.2+iU G n=c+iU G r.1
 g: ∀j,n<=j->j<r.1->Zc G n c r.1 j
theorem zC.app {G:List Gt} {n c:Nat} {r t:Nat×Nat} (h1:zC G n c r) (h2:zC G r.1 r.2 t):zC G n c t:=by
 obtain⟨a1,a2,a3⟩:=h1;obtain⟨b1,b2,b3⟩:=h2;have hm:=wH G b1;refine⟨fw a1 b1,by omega,fun j j1 j2=> ?_⟩
 by_cases hj:j<r.1
 ·obtain⟨g1,g2⟩:=a3 j j1 hj;refine⟨g1,fun h=> ?_⟩
  obtain⟨g3,g4,g5,g6⟩:=g2 h;exact⟨g3,g4,by omega,fun k hk=>by have:=g6 k hk;omega⟩
 ·obtain⟨g1,g2⟩:=b3 j (by omega) j2
  exact⟨fun h=>by have:=g1 h;omega,g2⟩
structure IM (G:List Gt) (c:Nat):Prop where
 ct:iU G G.length=c
 lf: ∀j,j<G.length->(G.getD j eC).kids=[]->(G.getD j eC).leaf=iU G j
 nd: ∀j,j<G.length->(G.getD j eC).kids≠[]->1<=(G.getD j eC).need/\(G.getD j eC).need<=(G.getD j eC).kids.length/\(G.getD j eC).kids.length<=c/\ ∀k∈(G.getD j eC).kids,(j:Int)<k/\k<G.length
theorem yA {G:List Gt} {c:Nat} (h:DI G=some c) (h0:G≠[]):eN G (G.length+1) 0 0 0=(true,G.length,c)/\c<=256:=by
 unfold DI at h;rw[aa h0]at h;have e:=Bt G (G.length+1) 0 0;rw[show((0:Nat):Int)=0 from rfl]at e
 rw[<-e]at h;generalize eN G (G.length+1) 0 0 0=x at*;obtain⟨ok,n,d⟩:=x;cases ok
 ·cases h
 ·simp only[Q3,aC]at h
  split at h
  ·rename_i hh;injection h with h
   obtain⟨rfl,h2⟩:=hh;subst h;exact⟨rfl,h2⟩
  ·cases h
end Go.Dom
namespace Go.Proofs.Tryz
open Go Go.Dom
variable {v:Int->Nat->Nat->Bool×Nat×Nat}
def mA (v:Nat->Bytes):Nat->List Int->Bytes
 | _,[]=>[]
 |s,k::r=>UInt8.ofNat s::(v k.toNat++mA v 44 r)
def Eh (G:List Gt):Nat->Nat->Bytes
 |0,_=>[]
 |f+1,n=>if(G.getD n eC).kids=[]then cF (G.getD n eC).leaf.toNat else cF (G.getD n eC).need.toNat++(mA (Eh G f) 40 (G.getD n eC).kids++[UInt8.ofNat 41])
theorem yF {G:List Gt}: ∀{f:Nat} {k:Int} {n c:Nat},(eN G f k n c).1=true->k=n
 |0,_,_,_,h=>by cases h
 |f+1,k,n,c,h=>by
  rw[eN]at h
  split at h
  ·cases h
  ·rename_i g;exact Classical.byContradiction fun hk=>g (.inl hk)
theorem rJ {k:Int} {r:List Int} {n c:Nat} (h:(ix v (k::r) n c).1=true):(v k n c).1=true/\ix v (k::r) n c=ix v r (v k n c).2.1 (v k n c).2.2:=by
 rw[ix]at h⊢
 split at h
 ·rename_i g;exact⟨g,af g⟩
 ·cases h
theorem FZ {t:Nat->Bytes} (ha: ∀k n c,(v k n c).1=true->k=(n:Int)) (hv: ∀n c:Nat,(v (n:Int) n c).1=true->(t n).length+5*n+1<=5*(v (n:Int) n c).2.1): ∀(l:List Int) (s n c:Nat),(ix v l n c).1=true->(mA t s l).length+5*n<=5*(ix v l n c).2.1
 |[],s,n,c,_=>by rw[mA,ix];simp
 |k::r,s,n,c,h=>by
  obtain⟨h1,h2⟩:=rJ h;rw[h2]at h⊢;obtain rfl:=ha _ _ _ h1;have a:=hv n c h1;have b:=FZ ha hv r 44 _ _ h;rw[mA,List.length_cons,bR,Int.toNat_natCast];omega
theorem ve (G:List Gt): ∀(f n c:Nat),(eN G f (n:Int) n c).1=true->(Eh G f n).length+5*n+1<=5*(eN G f (n:Int) n c).2.1
 |0,_,_,h=>by cases h
 |f+1,n,c,h=>by
  have d1:=dA (G.getD n eC).leaf.toNat;have d2:=dA (G.getD n eC).need.toNat;rw[eN]at h⊢;rw[Eh]
  split at h
  ·cases h
  rename_i g1;rw[aa g1]
  split at h
  ·rename_i g2;rw[af g2,af g2];simp only;omega
  rename_i g2;rw[aa g2,aa g2]
  split at h
  ·cases h
  rename_i g3;rw[aa g3];have:=FZ (v:=eN G f) (fun k n c=>yF) (ve G f) _ 40 _ _ h
  simp only[bR,List.length_cons,List.length_nil];omega
end Go.Proofs.Tryz
namespace Go.Proofs.Tryz
open Go Go.Dom Go.Num
def tw (G:List Gt):Bytes:=if G=[]then[]else Eh G (G.length+1) 0
theorem FE {G:List Gt} {c:Nat} (h:DI G=some c):(tw G).length<=5*G.length:=by
 unfold tw
 by_cases h0:G=[]
 ·rw[af h0];simp
 rw[aa h0];obtain⟨e,-⟩:=yA h h0;have:=ve G (G.length+1) 0 0 (by rw[show((0:Nat):Int)=0 from rfl,e])
 rw[show((0:Nat):Int)=0 from rfl,e]at this
 simp only at this;omega
