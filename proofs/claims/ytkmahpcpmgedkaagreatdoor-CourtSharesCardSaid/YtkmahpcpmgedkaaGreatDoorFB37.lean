/- Part of the proof. -/
import Derived.Test.YtkmahpcpmgedkaaGreatDoorFB36
import Derived.Test.YtkmahpcpmgedkaaGreatDoorFB33
import Derived.Test.YtkmahpcpmgedkaaGreatDoorFB30
set_option linter.all false
set_option maxHeartbeats 16000000
set_option maxRecDepth 100000
namespace Go.Proofs.Tryz
open Go Go.Dom
theorem GI {a b:Bytes} (ha:aa a=true) (hb:aa b=true) (h0:0<num b):aD 357 [.s a, .s b] (.tup [N (num a/num b),N (num a%num b)]):=by
 by_cases h:a.length<=8\/num a<num b
 ·exact vD ha hb h0 h
 ·exact JZ ha hb h0 oO oO
theorem PS {a b:Nat} (ha:a<cW) (hb:b<cW) (h0:0<b):aD 232 [N a,N b] (.tup [N (a/b),N (a%b),E 0]):=by
 have va:=qS ha;have vb:=qS hb;have hd:=GI va vb (by rw[aP];exact h0)
 have v1:=aS (aX a);have v2:=aS (aX b);have hz:=tJ (n:=b) oO;rw[va]at v1;rw[vb]at v2;rw[aP,aP]at hd;refine eW call232 func232 ?_;exact yG @hz @v1 @v2 @hd oT
end Go.Proofs.Tryz
namespace Go.Proofs.Tryz
open Go Go.Dom Go.Num
variable {L i:Nat} {b c o sd sl:Bytes} {e x:Int} {vs:List Bytes}
theorem P7 (l:List Int):(l.map gW).map dI=l.map Zp:=by rw[iB];rfl
theorem mz {w:List Int} (hw: ∀x∈w,x.natAbs<cW):(w.map gW).all cJ=true:=by
 rw[bM];intro x hx;obtain⟨z,hz,rfl⟩:=bG.1 hx;exact o8 (hw z hz)
theorem Rt {s:cG} (hs:xf s) {w:List (Bool×Bytes)} (hw:w.length<1000000):aD 251 [s.pv, .sl (w.map dI)] (E (if !(w.all cJ)then 3 else if w.length≠s.vars.length then 6 else 0)):=by
 have hf:=Ny hs.b;have hc:=II hs.b;rw[hs.ck]at hc;rw[show pP s=true from by have:=hs.ck;unfold Nw at this;cases h:pP s<;>simp_all]at hf
 have hcf:=gD w _ _ oO Rs;rw[nu]at hcf;have l1:(w.map dI).length=w.length:=aB ..;obtain⟨gs,vs,es⟩:=s;have l2:(vs.map cl).length=vs.length:=aB ..;simp only[cG.pv,au]at hf hc⊢;generalize w.all cJ=b at*;cases b
 ·refine eW call251 func251 ?_;exact yG (aN @l1 @l2) @hf @hc @hcf oT
 ·by_cases hl:w.length=vs.length
  ·have hI:((w.length:Int) !=vs.length)=false:=by rw[hl];simp
   rw[ae (by simp),ae (by simpa using hl)]
   refine eW call251 func251 ?_;exact yG (aN @l1 (aN @l2 @hI)) @hf @hc @hcf oT
  ·have hI:((w.length:Int) !=vs.length)=true:=by rw[uT];omega
   rw[ae (by simp),ah (by simpa using hl)]
   refine eW call251 func251 ?_;exact yG (aN @l1 (aN @l2 @hI)) @hf @hc @hcf oT
theorem IQ {s:cG} (hs:xf s) {w:List Int} (hwl:w.length=s.vars.length) (hw: ∀x∈w,x.natAbs<cW):aD 251 [s.pv, .sl (w.map Zp)] (E 0):=by
 have nv:=hs.nv;have:=Rt hs (w:=w.map gW) (by rw[aB];omega)
 rwa[P7,mz hw,aB,ae (by simp),ae (by simpa using hwl)]at this
def WS (s:cG) (w:List Int):Prop:= ∀q∈s.eqs,WB q.terms w
theorem PU {s:cG} (hs:xf s) {w:List Int} (hwl:w.length=s.vars.length) (hw: ∀x∈w,x.natAbs<cW) (hW:WS s w):aD 150 [s.pv, .sl (w.map Zp)] (.tup [.sl ((pQ s w).map .s),E 0]):=by
 have hr:=IQ hs hwl hw;have hi:=IG hs hW;generalize pQ s w=L at*;obtain⟨gs,vs,es⟩:=s;simp only[cG.pv]at hr hi⊢;refine eW call150 func150 ?_;exact z2 @hr @hi
def dS (o b:Bytes):Nat:=if b=[]then num o else num b
def fU (b:Bytes) (x:Int) (L:Nat):Bool:=decide (x.natAbs<L)&& !(decide (b=[])&&decide (x<0))
def tw (o:Bytes) (us:List Bytes) (w:List Int):Bool:=(List.range us.length).all fun i=>fU (us.getD i []) (w.getD i 0) (dS o (us.getD i []))
theorem dc {gs:List (Bytes×Bytes)} (h: ∀p∈gs,gE p.1 p.2=0/\p.1.length<=8/\p.2.length<=8):aa (bA gs)=true/\(bA gs).length<=8:=by
 induction gs with
 |nil=>exact⟨rfl,by simp[bA]⟩
 |cons g r ih=>
  rw[bA];obtain⟨g1,g2,g3⟩:=h g (ur ..);split
  ·exact ih fun p hp=>h p (ka _ hp)
  ·exact⟨(jm g1).2.1,g3⟩
theorem Kk {s:cG} (hs:xf s) {w:List Int} (hwl:w.length=s.vars.length) (hw: ∀x∈w,x.natAbs<cW):aD 252 [s.pv, .sl (w.map Zp)] (.b (tw (bA s.groups) s.vars w)):=by
 have hv:=hs.v;have nv:=hs.nv;have hor:=BV s (by have:=hs.ng;omega)
 have hoV:=dc hs.g;obtain⟨gs,vs,es⟩:=s;simp only at hv hwl nv hor hoV⊢;have l2:(vs.map cl).length=vs.length:=aB ..;have l5:(w.map Zp).length=vs.length:=by rw[aB];exact hwl
 generalize bA gs=oq at*;unfold cG.pv at*;simp only at*;refine eW call252 func252 ?_;refine cU @l2 ?_;refine af (α:=Nat) (fun i=>vs.length-i) (fun i=>⟨[(1, .v (.sl (w.map Zp))),(2, .p 1000 0 0),(9, .v (.sl (vs.map cl))),(10,E' vs.length),(11,E' i)],[(1000,⟨0,[.v (.sl (gs.map eu)), .v (.sl (vs.map cl)), .v (.sl (es.map da.pv))],false,none⟩)],_⟩) (fun i=>i<=vs.length/\ ∀j,j<i->fU (vs.getD j []) (w.getD j 0) (dS oq (vs.getD j []))=true) 0 (fun _=>ay _) ⟨aJ _,fun j hj=>oO⟩ ?_ ?_
 ·exact lE
 ·rintro i ⟨hi,hall⟩ R hR
  by_cases hlt:i<vs.length
  ·have e1:=getD_map cl vs [] hlt;have e2:=getD_map Zp w 0 (i:=i) oO;have kb:=hv _ (aq [] hlt);have kw:=hw _ (aq 0 (show i<w.length by omega))
   have hgo:=fun h=>hR (i+1) ⟨oO,h⟩ oO
   have hbad:=fun h: ¬fU (vs.getD i []) (w.getD i 0) (dS oq (vs.getD i []))=true=>kY (p:=fun i=>fU (vs.getD i []) (w.getD i 0) (dS oq (vs.getD i []))) hlt (fy.2 h)
   have hnx:fU (vs.getD i []) (w.getD i 0) (dS oq (vs.getD i []))=true-> ∀j,j<i+1->fU (vs.getD j []) (w.getD j 0) (dS oq (vs.getD j []))=true:=fun h j hj=>by
    by_cases hji:j<i
    ·exact hall j hji
    ·obtain rfl:j=i:=oO;exact h
   rw[<-tw]at hbad;clear hR hall;generalize vs.getD i []=b at*;generalize w.getD i 0=x at*;have hz:=(o8 kw);simp only[gW,cJ,aZ]at hz;have hc:=rG hz.1 kb.1;have hc':=rG hz.1 hoV.1;simp only[vQ]at hc hc';have hd: ∀L:Nat,decide (ba x.natAbs L>=0)= !decide (x.natAbs<L):=fun L=>Kc _ _
   simp only[cl]at e1;simp only[Zp,dI,gW]at e2;simp only[fU,dS]at hbad hnx
   by_cases hb:b=[]
   ·subst hb;simp only[au,decide_true,cj]at hbad hnx;have hzs:zs x=decide (x<0):=rfl;have h1:=hd (num oq);clear hd hc kb;generalize ba x.natAbs (num oq)=cm at*;generalize decide (x.natAbs<num oq)=p at*;generalize hq:decide (x<0)=q at*;cases q
    ·cases p
     ·rw[hbad (by simp)]
      exact AN (aN @l2 (aN @l5 (aN @e1 (aN @e2 (aN @hzs (aN @h1 @nn)))))) @hor @hc'
     ·have hgo:=hgo (hnx (by simp))
      exact rv (aN @l2 (aN @l5 (aN @e1 (aN @e2 (aN @hzs (aN @h1 @nn)))))) @hgo @hor @hc'
    ·rw[hbad (by simp)]
     exact AN (aN @l2 (aN @l5 (aN @e1 (aN @e2 (aN @hzs (aN @h1 @nn)))))) @hor @hc'
   ·have hbb:(b==[])=false:=by simpa using hb
    simp only[ae hb,aH hb,dW,ca,jB]at hbad hnx;have h1:=hd (num b);clear hd hc' kb;generalize ba x.natAbs (num b)=cm at*;generalize decide (x.natAbs<num b)=p at*;cases p
    ·rw[hbad (by simp)]
     exact mi (aN @l2 (aN @l5 (aN @e1 (aN @e2 (aN @hbb @h1))))) @hc
    ·have hgo:=hgo (hnx rfl);exact gV (aN @l2 (aN @l5 (aN @e1 (aN @e2 (aN @hbb @h1))))) @hgo @hc
  ·obtain rfl:i=vs.length:=oO;have hg:tw oq vs w=true:=lO fun j hj=>hall j hj
   rw[hg];exact z0
noncomputable def CZ (s:cG) (w:List Int):Bool:=decide (pQ s w=s.eqs.map (·.tgt))
theorem Kj {s:cG} (hs:xf s) {w:List Int} (hwl:w.length=s.vars.length) (hw: ∀x∈w,x.natAbs<cW) (hW:tw (bA s.groups) s.vars w=true->WS s w):aD 146 [s.pv, .sl (w.map Zp)] (.tup [.b (tw (bA s.groups) s.vars w&&CZ s w),E 0]):=by
 have ne:=hs.ne;have hr:=IQ hs hwl hw;have hi:=Kk hs hwl hw;have hm:=fun h=>IG hs (hW h)
 have hL:=qK s w;unfold CZ;generalize pQ s w=L at*;obtain⟨gs,vs,es⟩:=s;simp only[cG.pv]at hr hi hm hL⊢;have l3:(es.map da.pv).length=es.length:=aB ..;have l4:(L.map PV.s).length=es.length:=by rw[aB];exact hL
 simp only at ne;clear hs hW hw hwl;generalize tw (bA gs) vs w=b at*;cases b
 ·refine eW call146 func146 ?_;exact z2 @hr @hi
 have hm:=hm rfl;refine eW call146 func146 ?_;refine uV @l3 @hr @hi @hm oT ?_;refine af (α:=Nat) (fun i=>es.length-i) (fun i=>⟨[(2, .p 1000 0 0),(7, .v (.sl (L.map .s))),(31, .v (.sl (es.map da.pv))),(32,E' es.length),(33,E' i)],[(1000,⟨0,[.v (.sl (gs.map eu)), .v (.sl (vs.map cl)), .v (.sl (es.map da.pv))],false,none⟩)],_⟩) (fun i=>i<=es.length/\ ∀j,j<i->L.getD j []=(es.getD j gF).tgt) 0 (fun _=>ay _) ⟨aJ _,fun j hj=>oO⟩ ?_ ?_
 ·exact lE
 ·rintro i ⟨hi,hall⟩ R hR
  by_cases hlt:i<es.length
  ·have e1:=getD_map da.pv es gF hlt;have e2:=getD_map PV.s L [] (i:=i) oO;have hgo:=fun h=>hR (i+1) ⟨oO,h⟩ oO
   have hnx:L.getD i []=(es.getD i gF).tgt-> ∀j,j<i+1->L.getD j []=(es.getD j gF).tgt:=fun h j hj=>by
    by_cases hji:j<i
    ·exact hall j hji
    ·obtain rfl:j=i:=oO;exact h
   have hbad: ¬L.getD i []=(es.getD i gF).tgt->decide (L=es.map (·.tgt))=false:=fun h=>aH fun g=>h (by rw[g];simp[bu,hlt])
   clear hR hall;generalize es.getD i gF=q at*;generalize L.getD i []=x at*;obtain⟨g,t,ts⟩:=q;simp only[da.pv]at e1 hbad hnx
   by_cases hxt:x=t
   ·have hgo:=hgo (hnx hxt);have e3:(x==t)=true:=by simpa using hxt
    exact jC (aN @l3 (aN @l4 (aN @e1 (aN @e2 @e3)))) @hgo
   ·have e3:(x==t)=false:=by simpa using hxt
    rw[hbad hxt];exact gn (aN @l3 (aN @l4 (aN @e1 (aN @e2 @e3))))
  ·obtain rfl:i=es.length:=oO;rw[aI (Iw hL hall)];exact z0
def lM (o c sl b:Bytes):Nat:=if b=[]then num o else qj c sl b
def lR (o c sl b:Bytes):Nat:=if b=[]then num o else Nz c sl b
def lP (o c sl b:Bytes):PV:= .agg [N (lM o c sl b),N (lR o c sl b)]
structure BD (c sl:Bytes) (s:cG):Prop where
 r:sR c sl
 g:xf s
 m: ∀b∈s.vars,b=[]->num c<=num (bA s.groups)
theorem po (b:Bytes):aD 256 [cl b] (E (if b=[]then 0 else 1)):=by
 by_cases h:b=[]
 ·subst h;unfold cl;refine eW call256 func256 ?_;exact gn @nn
 ·rw[ae h];exact OZ h
theorem FY (c sl q b:Bytes):aD 257 [.agg [.s c, .s sl, .s q], .s b] (.tup [.agg [.s q, .s q],E 0]):=by
 refine eW call257 func257 ?_;exact z0
theorem aae (o c sl:Bytes):dY (lP o c sl) 2:=⟨fun _=>rfl,fun x y hy=>by simp[lP,PV.cells]at hy;rcases hy with rfl|rfl<;>rfl,fun h=>oO,fun _ x=>rfl⟩
theorem Ay {s:cG} (h:BD c sl s):aD 148 [.agg [.s c, .s sl],s.pv] (.tup [.sl (s.vars.map (lP (bA s.groups) c sl)),E 0]):=by
 obtain⟨hr,hs,hm⟩:=h;have hck:=II hs.b;rw[hs.ck]at hck;have hor:=Cq s (by have:=hs.ng;omega)
 have hoV:=dc hs.g;have v1:=aS c;have v2:=aS sl;rw[hr.vc]at v1;rw[hr.vs]at v2;have c1:=Mw hr.vc;have c2:=Mw hr.vs;have d1: ∀ _:True,decide (ba (num c) 2<0)=false:=fun _=>aH (fun g=>by have:=fP.1 g;have:=hr.c2;omega)
 have d2: ∀ _:True,decide (ba (num sl) 2<0)=false:=fun _=>aH (fun g=>by have:=fP.1 g;have:=hr.s2;omega)
 have c3:=rG hr.vc hoV.1;generalize ba (num c) 2=cm1 at*;generalize ba (num sl) 2=cm2 at*;have hv:=hs.v;have nv:=hs.nv;obtain⟨gs,vs,es⟩:=s;simp only at hv hm nv hor hoV c3⊢;generalize bA gs=q at*;have d3: ∀b∈vs,b=[]->decide (ba (num c) (num q)>0)=false:=fun b hb h=>aH fun g=>by
  have:=hm b hb h;unfold ba at g
  split at g
  ·omega
  ·split at g<;>omega
 generalize ba (num c) (num q)=cm3 at*;have eq:=eE hoV.1;have l2:(vs.map cl).length=vs.length:=aB ..;clear hm hoV;unfold cG.pv at*;simp only at*;refine eW call148 func148 ?_;refine Gj (aN (d1 oT) (aN (d2 oT) @l2)) @v1 @v2 @hck @WY @c1 @c2 @hor ?_;refine af (α:=Nat) (fun i=>vs.length-i) (fun i=>⟨[(2, .p 1000 0 0),(3, .p 1001 0 0),(8, .p 1037 0 0),(50, .v (.sl (vs.map cl))),(51,E' vs.length),(52,E' i)],[(1000,⟨0,[.v (.s c), .v (.s sl)],false,none⟩),(1001,⟨0,[.v (.sl (gs.map eu)), .v (.sl (vs.map cl)), .v (.sl (es.map da.pv))],false,none⟩),(1037,⟨0,[.v (.s c), .v (.s sl), .v (.s q)],false,some 317⟩)],_⟩) (fun i=>i<=vs.length) 0 (fun _=>ay _) (aJ _) ?_ ?_
 ·exact lE
 ·intro i hi R hR
  by_cases hlt:i<vs.length
  ·have e1:=getD_map cl vs [] hlt;have hk:=po (vs.getD i []);have d3:=d3 _ (aq [] hlt);have hgo:=hR (i+1) oO oO;clear hR;generalize vs.getD i []=b at*;simp only[cl]at e1 hk
   by_cases hb:b=[]
   ·rw[ah hb]at hk;have d3:=d3 hb;exact rv (aN @l2 (aN @e1 @d3)) @hgo @hk @c3
   ·rw[ae hb]at hk;exact gV (aN @l2 @e1) @hgo @hk
  ·obtain rfl:i=vs.length:=oO;have hL:=aae q c sl;have row0: ∀{i:Nat},i<vs.length->bj (lP q c sl) (vs.take (i+1))=bj (lP q c sl) (vs.take i)++[.v (N (lM q c sl (vs.getD i []))), .v (N (lR q c sl (vs.getD i [])))]:=fun h=>by
    rw[aQ [] h,cf];rfl
   clear hR d3 c1 c2 c3 d1 d2 hlt
   by_cases hpos:0<vs.length
   ·refine cU @l2 ?_;refine ai ?_;have e1:=getD_map cl vs [] hpos;have hk:=po (vs.getD 0 []);have r1:=row0 hpos;have hcs:(vs.getD 0 []=[]/\aD 257 [.agg [.s c, .s sl, .s q], .s (vs.getD 0 [])] (.tup [.agg [N (lM q c sl (vs.getD 0 [])),N (lR q c sl (vs.getD 0 []))],E 0]))\/(vs.getD 0 []≠[]/\aD 258 [.agg [.s c, .s sl, .s q], .s (vs.getD 0 [])] (.tup [.agg [N (lM q c sl (vs.getD 0 [])),N (lR q c sl (vs.getD 0 []))],E 0])):=by
     by_cases h:vs.getD 0 []=[]
     ·refine .inl ⟨h,?_⟩;rw[h,lM,lR,ah rfl,ah rfl,eq];exact FY c sl q []
     ·obtain⟨k1,k3⟩:=hv _ (aq [] hpos);refine .inr ⟨h,?_⟩;rw[lM,lR,ae h,ae h];exact ug (q:=q) hr k1 h k3
    generalize lM q c sl (vs.getD 0 [])=A at*;generalize lR q c sl (vs.getD 0 [])=B at*;generalize vs.getD 0 []=b at*;simp only[cl]at e1 hk;rcases hcs with⟨hb,hi1⟩|⟨hb,hi1⟩
    all_goals
     first|rw[ah hb]at hk|rw[ae hb]at hk
     refine Px (aN @l2 @e1) @hk @hi1 ?_;refine af (α:=Nat) (fun j=>vs.length-(j+1)) (fun j=>⟨[(11, .p 1049 0 0),(12, .rs 1079 j 0 (j+1) 2),(74, .v (.sl (vs.map cl))),(75,E' vs.length),(76,E' (j+1))],[(1049,⟨0,[.fn (.func 257) [.v (.agg [.s c, .s sl, .s q])] [], .fn (.func 258) [.v (.agg [.s c, .s sl, .s q])] []],false,some 320⟩),(1079,⟨j,bj (lP q c sl) (vs.take (j+1)),true,some 242⟩)],1083⟩) (fun j=>j+1<=vs.length) 0 (fun _=>bZ rfl) hpos ?_ ?_
     ·rw[dq,r1,List.take_zero,show bj (lP q c sl) []=[]from rfl]
      exact lE
     ·clear e1 hk hi1 r1 hb;intro j hj R hR;have hj1:(vs.take (j+1)).length=j+1:=by rw[bV];omega
      have q1:=cz hL (vs.take (j+1));have q2:=cM hL (vs.take (j+1));rw[hj1]at q1 q2
      by_cases hlt:j+1<vs.length
      ·have hgo:=hR (j+1) oO oO;clear hR;have e1:=getD_map cl vs [] hlt;have hk:=po (vs.getD (j+1) []);have r1:=row0 hlt;have hcs:(vs.getD (j+1) []=[]/\aD 257 [.agg [.s c, .s sl, .s q], .s (vs.getD (j+1) [])] (.tup [.agg [N (lM q c sl (vs.getD (j+1) [])),N (lR q c sl (vs.getD (j+1) []))],E 0]))\/(vs.getD (j+1) []≠[]/\aD 258 [.agg [.s c, .s sl, .s q], .s (vs.getD (j+1) [])] (.tup [.agg [N (lM q c sl (vs.getD (j+1) [])),N (lR q c sl (vs.getD (j+1) []))],E 0])):=by
        by_cases h:vs.getD (j+1) []=[]
        ·refine .inl ⟨h,?_⟩;rw[h,lM,lR,ah rfl,ah rfl,eq];exact FY c sl q []
        ·obtain⟨k1,k3⟩:=hv _ (aq [] hlt);refine .inr ⟨h,?_⟩;rw[lM,lR,ae h,ae h];exact ug (q:=q) hr k1 h k3
       generalize lM q c sl (vs.getD (j+1) [])=A at*;generalize lR q c sl (vs.getD (j+1) [])=B at*;generalize vs.getD (j+1) []=b at*;simp only[cl]at e1 hk;rcases hcs with⟨hb,hi1⟩|⟨hb,hi1⟩
       all_goals
        first|rw[ah hb]at hk|rw[ae hb]at hk
        rw[r1]at hgo;refine pV (aN @l2 (aN @e1 (aN @q1 @q2))) @hk @hi1 ?_;refine hgo _ ?_
        (refine AS.Le.of (by first|decide|omega) ?_ ?_<;>simp[dy,dx,aO,az,AV.bd,AV.bd.bdL,u8,ar,ax,aA])
        all_goals (intro c hc;rcases hc with h|h|h<;>first|exact cR h|(subst h;rfl))
      ·obtain hjv:j+1=vs.length:=oO;rw[hjv,ct]at q1 q2;rw[hjv,ct];have q3:=ff hL vs;have q4:=dD hL vs;repeat' first|simp only[go_sem,seval,l2,q1,q2,q3,q4,fk]|refine oE ?_|apply xX<;>intro hc
       all_goals skip
   ·obtain rfl:vs=[]:=gS.1 oO;exact SU @l2
theorem FN {s:cG} (h:BD c sl s):aD 135 [.agg [.s c, .s sl],s.pv] (.tup [.sl (s.vars.map fun b=>N (lM (bA s.groups) c sl b)), .sl (s.vars.map fun b=>N (lR (bA s.groups) c sl b)),E 0]):=by
 have hb:=Ay h;have nv:=h.g.nv;obtain⟨gs,vs,es⟩:=s;simp only at hb nv⊢;clear h;generalize bA gs=o at*;have l2:(vs.map (lP o c sl)).length=vs.length:=aB ..;unfold cG.pv at*;simp only at*
 by_cases hpos:0<vs.length
 rotate_left
 ·obtain rfl:vs=[]:=gS.1 oO;refine eW call135 func135 ?_;exact TK @hb
 have hM:dY (fun b=>N (lM o c sl b)) 1:=⟨fun _=>rfl,fun _ y hy=>by cases dt.1 hy;rfl,fun _ _=>rfl,fun h=>aW rfl h⟩
 have hR0:dY (fun b=>N (lR o c sl b)) 1:=⟨fun _=>rfl,fun _ y hy=>by cases dt.1 hy;rfl,fun _ _=>rfl,fun h=>aW rfl h⟩
 have row1: ∀{i:Nat},i<vs.length->bj (fun b=>N (lM o c sl b)) (vs.take (i+1))=bj (fun b=>N (lM o c sl b)) (vs.take i)++[.v (N (lM o c sl (vs.getD i [])))]:=fun h=>by
  rw[aQ [] h,cf];rfl
 have La: ∀{i:Nat},i<vs.length->bj (fun b=>N (lR o c sl b)) (vs.take (i+1))=bj (fun b=>N (lR o c sl b)) (vs.take i)++[.v (N (lR o c sl (vs.getD i [])))]:=fun h=>by
  rw[aQ [] h,cf];rfl
 refine eW call135 func135 ?_;refine nc @l2 @hb ?_;refine ai ?_;have e1:=getD_map (lP o c sl) vs [] hpos;have r1:=row1 hpos;have r2:=La hpos;simp only[lP]at e1;refine cU (aN @l2 @e1) ?_;refine af (α:=Nat) (fun j=>vs.length-(j+1)) (fun j=>⟨[(9, .rs 1029 j 0 (j+1) 1),(10, .rs 1034 j 0 (j+1) 1),(22, .v (.sl (vs.map (lP o c sl)))),(23,E' vs.length),(24,E' (j+1))],[(1029,⟨j,bj (fun b=>N (lM o c sl b)) (vs.take (j+1)),true,some 22⟩),(1034,⟨j,bj (fun b=>N (lR o c sl b)) (vs.take (j+1)),true,some 22⟩)],1039⟩) (fun j=>j+1<=vs.length) 0 (fun _=>bZ rfl) hpos ?_ ?_
 ·rw[dq,r1,r2,List.take_zero,show bj (fun b=>N (lM o c sl b)) []=[]from rfl,show bj (fun b=>N (lR o c sl b)) []=[]from rfl]
  exact lE
 ·intro j hj R hR;have hj1:(vs.take (j+1)).length=j+1:=by rw[bV];omega
  have q1:=cz hM (vs.take (j+1));have q2:=cM hM (vs.take (j+1));have q5:=cz hR0 (vs.take (j+1));have q6:=cM hR0 (vs.take (j+1));rw[hj1,dN]at q1 q2 q5 q6
  by_cases hlt:j+1<vs.length
  ·have e1:=getD_map (lP o c sl) vs [] hlt;have r1:=row1 hlt;have r2:=La hlt;simp only[lP]at e1;have hgo:=hR (j+1) oO oO;rw[r1,r2]at hgo;clear hR;refine dH (aN @l2 (aN @e1 (aN @q1 (aN @q2 (aN @q5 @q6))))) ?_;refine hgo _ ?_
   (refine AS.Le.of (by first|decide|omega) ?_ ?_<;>simp[dy,dx,aO,az,AV.bd,AV.bd.bdL,u8,ar,ax,aA])
   all_goals (refine⟨?_,?_⟩<;>(intro c hc;rcases hc with h|h<;>first|exact cR h|(subst h;rfl)))
  ·obtain hjv:j+1=vs.length:=oO;rw[hjv,ct]at q1 q2 q5 q6;rw[hjv,ct];have q3:=ff hM vs;have q4:chunk 1 vs.length (List.flatMap (fun x=>[PV.s (aX (lM o c sl x))]) vs)=vs.map fun b=>N (lM o c sl b):=dD hM vs
   have q7:=ff hR0 vs;have q8:chunk 1 vs.length (List.flatMap (fun x=>[PV.s (aX (lR o c sl x))]) vs)=vs.map fun b=>N (lR o c sl b):=dD hR0 vs
   repeat' first|simp only[go_sem,seval,l2,q1,q2,q3,q4,q5,q6,q7,q8,fk]|refine oE ?_|apply xX<;>intro hc
   all_goals skip
def iF (o c sl:Bytes) (vs:List Bytes) (sd b:Bytes) (i:Nat):Except Int Int:=
 if b=[]then(match gb vs sd i o with
  | .error e=> .error e
  | .ok x=> .ok (num x:Int))else uf vs sd i (qj c sl b)
def iH (o c sl:Bytes) (vs:List Bytes) (sd:Bytes):List Bytes->Nat->List Int->Except Int (List Int)
 |[],_,acc=> .ok acc
 |b::us,i,acc=>match iF o c sl vs sd b i with
  | .error e=> .error e
  | .ok z=>iH o c sl vs sd us (i+1) (acc++[z])
theorem qf (h:iF o c sl vs sd b i= .error e):e=2\/e=14:=by
 unfold iF at h
 split at h
 ·split at h
  ·rename_i e' he;injection h with h
   subst h;exact mI he
  ·cases h
 ·exact Lj h
theorem tF: ∀{us:List Bytes} {i:Nat} {acc:List Int},iH o c sl vs sd us i acc= .error e->e=2\/e=14:=by
 intro us
 induction us with
 |nil=>intro i acc h;cases h
 |cons b us ih=>
  intro i acc h;rw[iH]at h
  split at h
  ·rename_i e' he;injection h with h
   subst h;exact qf he
  ·exact ih h
theorem wT (h:o.length<=8):num o<cW:=bH (eP h) (by unfold cW;decide+kernel)
theorem Nt (hr:sR c sl) (lo:o.length<=8) (lb:b.length<=16):lM o c sl b<cW:=by
 unfold lM;split
 ·exact wT lo
 ·exact xJ hr lb
theorem td {z:Int} (hr:sR c sl) (vo:aa o=true) (hb:aa b=true/\b.length<=16) (hv:vs.all aa=true) (hl:vs.length<1000000) (hi:i<=2147483647) (h:iF o c sl vs sd b i= .ok z):fU b z (lM o c sl b)=true/\i+1<=2147483647:=by
 unfold iF at h
 split at h
 ·rename_i hb0
  split at h
  ·cases h
  ·rename_i x hx;injection h with h
   subst h;obtain⟨-,h2,h3⟩:=gG hv vo hl hi hx;refine⟨?_,h3⟩;simp only[fU,lM,hb0,au,aZ,cq,fJ,cj,pI,decide_true];omega
 ·rename_i hb0;have hm:=tE hr hb.1 hb0 hb.2;obtain⟨h2,h3⟩:=OX hv hm.1 oO hl hi h;refine⟨?_,h3⟩;simp only[fU,lM,hb0,an,decide_false,dW,ca,jB,cq];exact h2
theorem Rz (hr:sR c sl) (vo:aa o=true) (hv:vs.all aa=true) (hl:vs.length<1000000): ∀(us:List Bytes) (i:Nat) (acc l:List Int),(∀b∈us,aa b=true/\b.length<=16)->i<=2147483647->iH o c sl vs sd us i acc= .ok l-> ∃r,l=acc++r/\r.length=us.length/\(∀j,j<us.length->fU (us.getD j []) (r.getD j 0) (lM o c sl (us.getD j []))=true)/\i+us.length<=2147483647:=by
 intro us
 induction us with
 |nil=>intro i acc l _ hi h;injection h with h;exact⟨[],by simp[h],rfl,(fun j hj=>(pB _ hj).elim),hi⟩
 |cons b us ih=>
  intro i acc l hb hi h;rw[iH]at h
  split at h
  ·cases h
  ·rename_i z hz;obtain⟨h3,h4⟩:=td hr vo (hb b (.head _)) hv hl hi hz;obtain⟨r,h5,h6,h7,h8⟩:=ih _ _ _ (fun b' hm=>hb b' (.tail _ hm)) h4 h
   refine⟨z::r,by rw[h5];simp,by simp[h6],?_,by simp;omega⟩
   intro j hj
   cases j with
   |zero=>exact h3
   |succ j=>exact h7 j (by simpa using hj)
theorem o7 (h:fU b x L=true):x.natAbs<L/\(b=[]->0<=x):=by
 simp only[fU,aZ,cq,fJ,Bool.and_eq_false_imp,pI]at h;exact⟨h.1,fun hb=>by have:=h.2 hb;omega⟩
theorem o9 {s:cG} (hp:BD c sl s) (hv:vs.all aa=true) (hi:i<=2147483647) (hl:vs.length<1000000) {ms:List Int} (h:iH (bA s.groups) c sl vs sd s.vars i []= .ok ms):
  ms.length=s.vars.length/\(∀j,j<s.vars.length->fU (s.vars.getD j []) (ms.getD j 0) (lM (bA s.groups) c sl (s.vars.getD j []))=true)/\i+s.vars.length<=2147483647/\ ∀x∈ms,x.natAbs<cW:=by
 have ho:=dc hp.g.g;obtain⟨r,h1,h2,h3,h4⟩:=Rz hp.r ho.1 hv hl _ _ _ _ hp.g.v hi h;rw[List.nil_append]at h1;subst h1;refine⟨h2,h3,h4,fun x hx=> ?_⟩
 obtain⟨j,hj,rfl⟩:=ik hx;have:=(o7 (h3 j oO)).1;rw[bu,bC hj]at this;exact jy this (Nt hp.r ho.2 (hp.g.v _ (aq [] oO)).2)
theorem Vi {a:Bytes} (h:a.length<=16):num a<256^16:=bH (cL a) (dF oC h)
theorem S3 {s:cG} (hs:xf s) {w:List Int} (hwl:w.length=s.vars.length) (hw: ∀x∈w,x.natAbs<256^100):WS s w:=by
 intro q hq t ht;obtain⟨t1,t2,t3,t4⟩:=(hs.q q hq).2.2.2.2 t ht;have hl:=((hs.b.q q hq).2 t ht);have hx:=hw _ (aq 0 (show t.var.toNat<w.length by omega))
 refine⟨t1,oO,t4,jy hx (by unfold cW;exact yD oC oC),?_⟩
 rw[pJ];refine fh (j8 (ku (Vi hl)) (ku hx)) ?_;unfold cW;rw[<-cZ];exact yD oC oC
theorem C5 (hr:sR c sl) (lo:o.length<=8) (lb:b.length<=16):lM o c sl b<256^33:=by
 unfold lM;split
 ·exact bH (eP lo) (by decide+kernel)
 ·have h1:num sl*num c<(2^64)*(2^64):=gQ (eP hr.ls) (eP hr.lc);have h2:qj c sl b<(2^64)*(2^64)*dL:=gQ h1 (Fe lb);exact bH h2 (by unfold dL;decide+kernel)
theorem QW {s:cG} (hp:BD c sl s) (ho:[]∈s.vars->bA s.groups≠[]) (hv:vs.all aa=true) (hi:i<=2147483647) (hl:vs.length<1000000) (hsd:sd.length<1000000):
  aD 149 [s.pv, .sl (s.vars.map (lP (bA s.groups) c sl)),T vs sd i] (NC vs sd (i+s.vars.length) (iH (bA s.groups) c sl vs sd s.vars i [])):=by
 have hb:=hp.g.v;have nv:=hp.g.nv;have hr:=hp.r;have vo:=(dc hp.g.g).1;obtain⟨gs,us,es⟩:=s;simp only at hb nv ho vo⊢;clear hp;generalize bA gs=o at*;have l2:(us.map cl).length=us.length:=aB ..;have l3:(us.map (lP o c sl)).length=us.length:=aB ..;obtain⟨R0,hR0⟩: ∃R0,R0=iH o c sl vs sd (us.drop 0) i []:=⟨_,rfl⟩;rw[show iH o c sl vs sd us i []=iH o c sl vs sd (us.drop 0) i []from rfl,<-hR0]
 unfold cG.pv;simp only
 by_cases hpos:0<us.length
 rotate_left
 ·obtain rfl:us=[]:=gS.1 oO;rw[List.drop_nil,iH]at hR0;subst hR0;refine eW call149 func149 ?_;exact PG
 refine eW call149 func149 ?_;refine cU @l2 ?_;refine ai ?_;have hz0:0<us.length:=hpos;have e1:=getD_map cl us [] hpos;have e2:=getD_map (lP o c sl) us [] hpos;have kb:=hb _ (aq [] hpos);have hk:=po (us.getD 0 []);have hdo:=fun hi z (h:iF o c sl vs sd (us.getD 0 []) i= .ok z)=>(td (i:=i) hr vo kb hv hl hi h).2
 have hcs:(us.getD 0 []=[]/\ ∀ _:i<=2147483647,aD 122 [T vs sd (i:Nat),N (lM o c sl (us.getD 0 []))] (match iF o c sl vs sd (us.getD 0 []) i with
   | .ok z=> .tup [.s (zb z),T vs sd ((i+1:Nat):Int),E 0]
   | .error e=> .tup [.s [],T [] [] 0,E e])/\ ∀z,iF o c sl vs sd (us.getD 0 []) i= .ok z->zs z=false)\/(us.getD 0 []≠[]/\ ∀ _:i<=2147483647,aD 259 [T vs sd (i:Nat),N (lM o c sl (us.getD 0 []))] (kF vs sd i (iF o c sl vs sd (us.getD 0 []) i))):=by
  by_cases h:us.getD 0 []=[]
  ·refine .inl ⟨h,fun hi=> ?_⟩
   have hbl:=uY (sd:=sd) (n:=o) hv vo (ho (by rw[<-h];exact aq [] hpos)) hi hl hsd
   rw[lM,ah h,eE vo];unfold iF;rw[ah h]
   cases hd:gb vs sd (i) o with
   |error e=>
    rw[hd]at hbl;exact⟨hbl,fun z hz=>by cases hz⟩
   |ok x=>
    have hx:=(gG hv vo hl hi hd).1;rw[hd]at hbl;refine⟨?_,fun z hz=>by dsimp only at hz;injection hz with hz;subst hz;simp[zs]⟩
    dsimp only;rw[show zb (num x:Int)=x from by rw[zb,Int.natAbs_natCast];exact gN hx]
    exact hbl
  ·have hm:=tE hr kb.1 h kb.2;refine .inr ⟨h,fun hi=> ?_⟩
   rw[lM,ae h,iF,ae h];exact BC (vs:=vs) (sd:=sd) (i:=i) hv hi hl hsd hm.1 hm.2
 rw[aT [] hpos,iH]at hR0;clear kb;generalize us.getD 0 []=u at*;simp only[cl]at e1 hk;simp only[lP]at e2;generalize lM o c sl u=M at*;generalize lR o c sl u=Rr at*;rcases hcs with⟨hu,hg⟩|⟨hu,hg⟩
 all_goals
  first|rw[ah hu]at hk|rw[ae hu]at hk
  have hg:=hg hi
  cases hsg:iF o c sl vs sd u i with
  |error e=>
   rw[hsg]at hg hR0;simp only[kF]at hg hR0;have he:(e !=0)=true:=by rcases qf hsg with rfl|rfl<;>rfl
   subst hR0
   first
    |have hg:=hg.1
    |skip
   exact AN (aN @l2 (aN @l3 (aN @e1 (aN @e2 @he)))) @hk @hg
  |ok z=>
   have hsi:i+(0+1)<=2147483647:=hdo hi z hsg;rw[hsg]at hg hR0;simp only[kF]at hg hR0
   first
    |(have hzz:=hg.2 z rfl
      have hg:=hg.1)
    |have hzz:zs z=zs z:=rfl
   refine pV (aN @l2 (aN @l3 (aN @e1 @e2))) @hk @hg ?_;obtain⟨nm,hnm⟩: ∃nm,nm=(if u=[]then 1042 else 1041):=⟨_,rfl⟩
   first|rw[ah hu]at hnm|rw[ae hu]at hnm
   clear e1 e2 hk hg hdo hu;refine af (α:=Nat×List Int) (fun p=>us.length-(p.1+1)) (fun p=>⟨[(1, .v (.sl (us.map (lP o c sl)))),(3, .p 1000 0 0),(5, .p 1001 0 0),(7, .p 1003 0 0),(9, .rs nm p.1 0 (p.1+1) 2),(15, .v (.sl (us.map cl))),(16,E' us.length),(17,E' (p.1+1))],[(1000,⟨0,[.v (.sl (gs.map eu)), .v (.sl (us.map cl)), .v (.sl (es.map da.pv))],false,none⟩),(1001,⟨0,[.v (.sl (vs.map .s)), .v (.s sd), .v (.i .i64 ((i+(p.1+1):Nat):Int))],false,none⟩),(1003,⟨0,[.sn, .v (.s []), .v (.i .i64 0)],false,some 37⟩),(nm,⟨p.1,bj Zp p.2,true,some 77⟩)],1045⟩) (fun p=>p.1+1<=us.length/\p.2.length=p.1+1/\i+(p.1+1)<=2147483647/\R0=iH o c sl vs sd (us.drop (p.1+1)) (i+(p.1+1)) p.2) (0,[z]) (fun _=>bZ rfl) ⟨hpos,rfl,hsi,hR0⟩ ?_ ?_<;>subst hnm
   ·refine lG ?_;all_goals exact⟨by first|rfl|(rw[<-hzz];rfl),fun c hc=>cR hc⟩
   ·clear hzz hR0 hsi;rintro⟨j,ms⟩ ⟨hj,hlm,hij,hR0⟩ R hR;simp only at hj hlm hij hR0;have q1:=cz ru ms;have q2:=cM ru ms;rw[hlm]at q1 q2
    by_cases hlt:j+1<us.length
    ·have e1:=getD_map cl us [] hlt;have e2:=getD_map (lP o c sl) us [] hlt;have kb:=hb _ (aq [] hlt);have hk:=po (us.getD (j+1) []);have hdo:=fun hi z (h:iF o c sl vs sd (us.getD (j+1) []) (i+(j+1))= .ok z)=>(td (i:=(i+(j+1))) hr vo kb hv hl hi h).2
     have hcs:(us.getD (j+1) []=[]/\ ∀ _:(i+(j+1))<=2147483647,aD 122 [T vs sd ((i+(j+1)):Nat),N (lM o c sl (us.getD (j+1) []))] (match iF o c sl vs sd (us.getD (j+1) []) (i+(j+1))with
       | .ok z=> .tup [.s (zb z),T vs sd (((i+(j+1))+1:Nat):Int),E 0]
       | .error e=> .tup [.s [],T [] [] 0,E e])/\ ∀z,iF o c sl vs sd (us.getD (j+1) []) (i+(j+1))= .ok z->zs z=false)\/(us.getD (j+1) []≠[]/\ ∀ _:(i+(j+1))<=2147483647,aD 259 [T vs sd ((i+(j+1)):Nat),N (lM o c sl (us.getD (j+1) []))] (kF vs sd (i+(j+1)) (iF o c sl vs sd (us.getD (j+1) []) (i+(j+1))))):=by
      by_cases h:us.getD (j+1) []=[]
      ·refine .inl ⟨h,fun hi=> ?_⟩
       have hbl:=uY (sd:=sd) (n:=o) hv vo (ho (by rw[<-h];exact aq [] hlt)) hi hl hsd
       rw[lM,ah h,eE vo];unfold iF;rw[ah h]
       cases hd:gb vs sd ((i+(j+1))) o with
       |error e=>
        rw[hd]at hbl;exact⟨hbl,fun z hz=>by cases hz⟩
       |ok x=>
        have hx:=(gG hv vo hl hi hd).1;rw[hd]at hbl;refine⟨?_,fun z hz=>by dsimp only at hz;injection hz with hz;subst hz;simp[zs]⟩
        dsimp only;rw[show zb (num x:Int)=x from by rw[zb,Int.natAbs_natCast];exact gN hx]
        exact hbl
      ·have hm:=tE hr kb.1 h kb.2;refine .inr ⟨h,fun hi=> ?_⟩
       rw[lM,ae h,iF,ae h];exact BC (vs:=vs) (sd:=sd) (i:=(i+(j+1))) hv hi hl hsd hm.1 hm.2
     rw[aT [] hlt,iH]at hR0;clear kb;generalize us.getD (j+1) []=u at*;simp only[cl]at e1 hk;simp only[lP]at e2;generalize lM o c sl u=M at*;generalize lR o c sl u=Rr at*;rcases hcs with⟨hu,hg⟩|⟨hu,hg⟩
     all_goals
      first|rw[ah hu]at hk|rw[ae hu]at hk
      have hg:=hg hij
      cases hsg:iF o c sl vs sd u (i+(j+1))with
      |error e=>
       rw[hsg]at hg hR0;simp only[kF]at hg hR0;have he:(e !=0)=true:=by rcases qf hsg with rfl|rfl<;>rfl
       subst hR0;clear hR
       first
        |have hg:=hg.1
        |skip
       exact AN (aN @l2 (aN @l3 (aN @e1 (aN @e2 (aN @he (aN @q1 @q2)))))) @hk @hg
      |ok y=>
       have hsi:i+(j+1+1)<=2147483647:=hdo hij y hsg;rw[hsg]at hg hR0;simp only[kF]at hg hR0;have hgo:=hR (j+1,ms++[y]) ⟨oO,by simp[hlm],hsi,hR0⟩ (by simp only;omega)
       simp only[uW]at hgo
       first
        |(have hzz:=hg.2 y rfl
          have hg:=hg.1;rw[hzz]at hgo)
        |skip
       clear hR;refine pV (aN @l2 (aN @l3 (aN @e1 (aN @e2 (aN @q1 @q2))))) @hk @hg ?_;refine hgo _ ?_;refine lG ?_;all_goals exact⟨oO,fun c hc=>by rcases hc with hc|rfl|rfl<;>first|exact cR hc|rfl⟩
    ·have hjl:us.length=j+1:=oO;rw[gU oO]at hR0;simp only[iH]at hR0;subst hR0;have q3:=ff ru ms;have q4:=dD ru ms;rw[hlm]at q4;rw[hjl];clear hR;exact gn (aN @l2 (aN @hjl (aN @q1 (aN @q2 (aN @q3 (aN @q4 @fk))))))
noncomputable def CI (s:cG) (vs:List Bytes) (sd:Bytes) (j:Nat):Except Int (List Int)->PV
 | .ok ms=> .tup [.sl (ms.map Zp), .sl ((pQ s ms).map .s),T vs sd j,E 0]
 | .error e=> .tup [.sl [], .sl [],T [] [] 0,E e]
theorem tx {s:cG} (h:xf s) (hv:[]∈s.vars):bA s.groups≠[]:=by
 have hk:=h.k;unfold E4 at hk;rw[List.any_eq_true.2 ⟨[],hv,rfl⟩]at hk;simp only[bQ,j4,aZ,fJ,ey]at hk;exact hk.1.1
theorem Jz {s:cG} (hp:BD c sl s) (hv:vs.all aa=true) (hi:i<=2147483647) (hl:vs.length<1000000) (hsd:sd.length<1000000):
  aD 71 [.agg [.s c, .s sl],s.pv,T vs sd i] (CI s vs sd (i+s.vars.length) (iH (bA s.groups) c sl vs sd s.vars i [])):=by
 have hb:=Ay hp;have hd:=QW hp (tx hp.g) (vs:=vs) (sd:=sd) (i:=i) hv hi hl hsd
 cases hR:iH (bA s.groups) c sl vs sd s.vars i []with
 |error e=>
  have he:(e !=0)=true:=by rcases tF hR with rfl|rfl<;>rfl
  rw[hR]at hd;obtain⟨gs,us,es⟩:=s;simp only[NC,CI,cG.pv]at hb hd⊢;refine eW call71 func71 ?_;exact AN @he @hb @hd
 |ok ms=>
  obtain⟨f1,f2,f3,f4⟩:=o9 hp hv hi hl hR;have hm:=PU hp.g f1 f4 (S3 hp.g f1 fun x hx=>by
   obtain⟨j,hj,rfl⟩:=ik hx;have:=(o7 (f2 j oO)).1;rw[bu,bC hj]at this;exact jy (jy this (C5 hp.r (dc hp.g.g).2 (hp.g.v _ (aq [] oO)).2)) (yD oC oC))
  rw[hR]at hd;simp only[NC,CI]at hd⊢;generalize pQ s ms=L at*;obtain⟨gs,us,es⟩:=s;simp only[cG.pv]at hb hd hm⊢;refine eW call71 func71 ?_;exact z4 @hb @hd @hm oT
theorem RD {a m:Nat} (hm:0<m):(-(a:Int))%m=if a%m=0 then 0 else((m-a%m:Nat):Int):=by
 have h1:=iy a m;have h2:=aL a hm;split
 ·rename_i h;refine((D9 (a:= -(a:Int)) (b:=m) (r:=0) (q:= -((a/m:Nat):Int)) oO).2 ⟨?_,oO,oO⟩).2;have:(a:Int)=m*(a/m:Nat):=by rw[<-Int.natCast_mul];omega
  rw[pw,<-this];omega
 ·rename_i h;refine((D9 (a:= -(a:Int)) (b:=m) (r:=((m-a%m:Nat):Int)) (q:= -((a/m:Nat):Int)-1) oO).2 ⟨?_,oO,oO⟩).2;have:(m:Int)*(a/m:Nat)+(a%m:Nat)=a:=by rw[<-Int.natCast_mul];omega
  rw[pG,pw,Int.mul_one];omega
theorem Th {m:Nat} (hx:x.natAbs<cW) (hm:m<cW) (h0:0<m):aD 279 [Z x,N m] (.tup [N (x%m).toNat,E 0]):=by
 have v1:=DG hx;have v2:=aS (aX m);rw[vB hm]at v2;have hd:=PS hx hm h0;have hlt:=aL x.natAbs h0;have hs:=xy (a:=m) (b:=x.natAbs%m) oO hm;have hmb:(aX m==([]:Bytes))=false:=by
  rw[ey,ne_eq,gM];omega
 have hr:(x%m).toNat=if x<0/\x.natAbs%m≠0 then m-x.natAbs%m else x.natAbs%m:=by
  by_cases hn:x<0
  ·have e:x= -(x.natAbs:Int):=oO;have h:=RD (a:=x.natAbs) h0;rw[<-e]at h;rw[h];split
   ·rename_i g;rw[ae (by simp[g])];omega
   ·rename_i g;rw[ah ⟨hn,g⟩];omega
  ·rw[ae (by simp[hn])]
   have e:x=(x.natAbs:Int):=oO
   conv=>lhs;rw[e]
   rw[<-Int.natCast_emod,Int.toNat_natCast]
 rw[hr];have hbb: ∀ _:True,(aX (x.natAbs%m)==([]:Bytes))=decide (x.natAbs%m=0):=fun _=>by
  rw[dK,eT,gM,cq]
 generalize x.natAbs%m=r at*;have hzs:zs x=decide (x<0):=rfl;clear hx hlt hr;unfold Z at v1⊢
 by_cases h1:x<0
 ·rw[aI h1]at hzs;rw[hzs]at v1⊢
  by_cases h2:r=0
  ·rw[aI h2]at hbb;rw[ae (by simp[h2])]
   refine eW call279 func279 ?_;exact yG (aN @hmb (hbb oT)) @v1 @v2 @hd @hs
  ·rw[aH h2]at hbb;rw[ah ⟨h1,h2⟩];refine eW call279 func279 ?_;exact yG (aN @hmb (hbb oT)) @v1 @v2 @hd @hs
 ·rw[aH h1]at hzs;rw[hzs]at v1⊢;rw[ae (by simp[h1])]
  refine eW call279 func279 ?_;exact yG @hmb @v1 @v2 @hd @hs
theorem xR (b:Bytes) (hx:x.natAbs<cW) (hL:L<cW):aD 163 [cl b,Zp x,N L] (.b (fU b x L)):=by
 have hk:=po b;have hc:=sZ hx hL;have hd: ∀ _:True,decide (ba x.natAbs L<0)=decide (x.natAbs<L):=fun _=>by rw[dK];simp only[cq];exact fP
 generalize ba x.natAbs L=cm at*;have hzs:zs x=decide (x<0):=rfl;rw[show N x.natAbs= .s (zb x)from rfl]at hc
 unfold fU;generalize decide (x.natAbs<L)=p at*;generalize decide (x<0)=q at*;simp only[Zp,dI,gW]
 by_cases hb:b=[]
 ·rw[ah hb]at hk;rw[aI hb,cj];unfold cl at hk⊢;refine eW call163 func163 ?_;exact Ws (aN (hd oT) @hzs) @hc @hk
 ·rw[ae hb]at hk;rw[aH hb,dW];unfold cl at hk⊢;refine eW call163 func163 ?_;exact Ws (aN (hd oT) @hzs) @hc @hk
theorem Sv {s:cG} (hs:xf s) {w:List Int} (hwl:w.length=s.vars.length) (hw: ∀x∈w,x.natAbs<cW):aD 162 [s.pv, .sl (w.map Zp)] (.b (tw (bA s.groups) s.vars w)):=by
 have hv:=hs.v;have nv:=hs.nv;have hor:=Cq s (by have:=hs.ng;omega)
 have hoV:=dc hs.g;obtain⟨gs,vs,es⟩:=s;simp only at hv hwl nv hor hoV⊢;have l2:(vs.map cl).length=vs.length:=aB ..;have l5:(w.map Zp).length=vs.length:=by rw[aB];exact hwl
 generalize bA gs=oq at*;unfold cG.pv at*;simp only at*;refine eW call162 func162 ?_;refine nc @l2 @hor ?_;refine af (α:=Nat) (fun i=>vs.length-i) (fun i=>⟨[(1, .v (.sl (w.map Zp))),(2, .p 1000 0 0),(5, .v (.s oq)),(12, .v (.sl (vs.map cl))),(13,E' vs.length),(14,E' i)],[(1000,⟨0,[.v (.sl (gs.map eu)), .v (.sl (vs.map cl)), .v (.sl (es.map da.pv))],false,none⟩)],_⟩) (fun i=>i<=vs.length/\ ∀j,j<i->fU (vs.getD j []) (w.getD j 0) (dS oq (vs.getD j []))=true) 0 (fun _=>ay _) ⟨aJ _,fun j hj=>oO⟩ ?_ ?_
 ·exact lE
 ·rintro i ⟨hi,hall⟩ R hR
  by_cases hlt:i<vs.length
  ·have e1:=getD_map cl vs [] hlt;have e2:=getD_map Zp w 0 (i:=i) oO;have kb:=hv _ (aq [] hlt);have kw:=hw _ (aq 0 (show i<w.length by omega))
   have hgo:=fun h=>hR (i+1) ⟨oO,h⟩ oO
   have hbad:=fun h: ¬fU (vs.getD i []) (w.getD i 0) (dS oq (vs.getD i []))=true=>kY (p:=fun i=>fU (vs.getD i []) (w.getD i 0) (dS oq (vs.getD i []))) hlt (fy.2 h)
   have hnx:fU (vs.getD i []) (w.getD i 0) (dS oq (vs.getD i []))=true-> ∀j,j<i+1->fU (vs.getD j []) (w.getD j 0) (dS oq (vs.getD j []))=true:=fun h j hj=>by
    by_cases hji:j<i
    ·exact hall j hji
    ·obtain rfl:j=i:=oO;exact h
   rw[<-tw]at hbad;clear hR hall;generalize vs.getD i []=b at*;generalize w.getD i 0=x at*;have hz:=(o8 kw);simp only[gW,cJ,aZ]at hz;clear hz;have hk:=po b;have hlm:dS oq b<cW:=by unfold dS;split;exact wT hoV.2;exact mV kb.1
   have hc:=xR b kw hlm;have hbl:(b=[]/\N (dS oq b)= .s oq)\/(b≠[]/\N (dS oq b)= .s b):=by
    by_cases h:b=[]
    ·exact .inl ⟨h,by rw[dS,ah h];exact eE hoV.1⟩
    ·exact .inr ⟨h,by rw[dS,ae h];exact eE kb.1⟩
   clear kb kw hlm;generalize hp:fU b x (dS oq b)=p at*;simp only[cl]at e1 hk hc;simp only[Zp,dI,gW]at e2 hc;rcases hbl with⟨hb,hL⟩|⟨hb,hL⟩
   all_goals
    first|rw[ah hb]at hk|rw[ae hb]at hk
    rw[hL]at hc;cases p
    ·rw[hbad (by simp)]
     exact AN (aN @l2 (aN @l5 (aN @e1 @e2))) @hk @hc
    ·have hgo:=hgo (hnx rfl);exact rv (aN @l2 (aN @l5 (aN @e1 @e2))) @hgo @hk @hc
  ·obtain rfl:i=vs.length:=oO;have hg:tw oq vs w=true:=lO fun j hj=>hall j hj
   rw[hg];exact z0
