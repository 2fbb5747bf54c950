/- Part of the proof. -/
import Derived.Test.YtnhhajlcpjgkjaaGreatDoorUC35
import Derived.Test.YtnhhajlcpjgkjaaGreatDoorUC36
set_option linter.all false
set_option maxHeartbeats 16000000
set_option maxRecDepth 100000
namespace Go.Proofs.Tryz
open Go Go.Dom
theorem FO {a b:Bytes} (ha:aa a=true) (hb:aa b=true) (h0:0<num b):aE 288 [.s a, .s b] (.tup [N (num a/num b),N (num a%num b)]):=by
 by_cases h:a.length<=8\/num a<num b
 ·exact ua ha hb h0 h
 ·exact Jk ha hb h0 oO oO
theorem OA {a b:Nat} (ha:a<dC) (hb:b<dC) (h0:0<b):aE 162 [N a,N b] (.tup [N (a/b),N (a%b),E 0]):=by
 have va:=jY ha;have vb:=jY hb;have hd:=FO va vb (by rw[aY];exact h0)
 have v1:=aG (bR a);have v2:=aG (bR b);have hz:=pK (n:=b) oO;rw[va]at v1;rw[vb]at v2;rw[aY,aY]at hd;refine eW call162 func162 ?_;exact zB @hz @v1 @v2 @hd oT
end Go.Proofs.Tryz
namespace Go.Proofs.Tryz
open Go Go.Dom Go.Num
variable {L i:Nat} {b c o sd sl:Bytes} {e x:Int} {vs:List Bytes}
theorem Wy (l:List Int):(l.map je).map cU=l.map Zp:=by rw[iF];rfl
theorem wc {w:List Int} (hw: ∀x∈w,x.natAbs<dC):(w.map je).all cr=true:=by
 rw[bH];intro x hx;obtain⟨z,hz,rfl⟩:=cv.1 hx;exact rA (hw z hz)
theorem P7 {s:cK} (hs:Bo s) {w:List (Bool×Bytes)} (hw:w.length<1000000):aE 315 [s.pv, .sl (w.map cU)] (E (if !(w.all cr)then 3 else if w.length≠s.vars.length then 6 else 0)):=by
 have hf:=Mo hs.b;have hc:=HN hs.b;rw[hs.ck]at hc;rw[show pj s=true from by have:=hs.ck;unfold Mm at this;cases h:pj s<;>simp_all]at hf
 have hcf:=fX w _ _ oO P6;rw[jh]at hcf;have l1:(w.map cU).length=w.length:=aL ..;obtain⟨gs,vs,es⟩:=s;have l2:(vs.map cO).length=vs.length:=aL ..;simp only[cK.pv,az]at hf hc⊢;generalize w.all cr=b at*;cases b
 ·refine eW call315 func315 ?_;exact zB (aN @l1 @l2) @hf @hc @hcf oT
 ·by_cases hl:w.length=vs.length
  ·have hI:((w.length:Int) !=vs.length)=false:=by rw[hl];simp
   rw[af (by simp),af (by simpa using hl)]
   refine eW call315 func315 ?_;exact zB (aN @l1 (aN @l2 @hI)) @hf @hc @hcf oT
  ·have hI:((w.length:Int) !=vs.length)=true:=by rw[qJ];omega
   rw[af (by simp),ah (by simpa using hl)]
   refine eW call315 func315 ?_;exact zB (aN @l1 (aN @l2 @hI)) @hf @hc @hcf oT
theorem HU {s:cK} (hs:Bo s) {w:List Int} (hwl:w.length=s.vars.length) (hw: ∀x∈w,x.natAbs<dC):aE 315 [s.pv, .sl (w.map Zp)] (E 0):=by
 have nv:=hs.nv;have:=P7 hs (w:=w.map je) (by rw[aL];omega)
 rwa[Wy,wc hw,aL,af (by simp),af (by simpa using hwl)]at this
def WS (s:cK) (w:List Int):Prop:= ∀q∈s.eqs,WB q.terms w
theorem OD {s:cK} (hs:Bo s) {w:List Int} (hwl:w.length=s.vars.length) (hw: ∀x∈w,x.natAbs<dC) (hW:WS s w):aE 199 [s.pv, .sl (w.map Zp)] (.tup [.sl ((uj s w).map .s),E 0]):=by
 have hr:=HU hs hwl hw;have hi:=HK hs hW;generalize uj s w=L at*;obtain⟨gs,vs,es⟩:=s;simp only[cK.pv]at hr hi⊢;refine eW call199 func199 ?_;exact z2 @hr @hi
def fG (o b:Bytes):Nat:=if b=[]then num o else num b
def jc (b:Bytes) (x:Int) (L:Nat):Bool:=decide (x.natAbs<L)&& !(decide (b=[])&&decide (x<0))
def BQ (o:Bytes) (us:List Bytes) (w:List Int):Bool:=(List.range us.length).all fun i=>jc (us.getD i []) (w.getD i 0) (fG o (us.getD i []))
theorem eF {gs:List (Bytes×Bytes)} (h: ∀p∈gs,gE p.1 p.2=0/\p.1.length<=8/\p.2.length<=8):aa (bK gs)=true/\(bK gs).length<=8:=by
 induction gs with
 |nil=>exact⟨rfl,by simp[bK]⟩
 |cons g r ih=>
  rw[bK];obtain⟨g1,g2,g3⟩:=h g (qD ..);split
  ·exact ih fun p hp=>h p (iQ _ hp)
  ·exact⟨(mc g1).2.1,g3⟩
theorem JG {s:cK} (hs:Bo s) {w:List Int} (hwl:w.length=s.vars.length) (hw: ∀x∈w,x.natAbs<dC):aE 316 [s.pv, .sl (w.map Zp)] (.b (BQ (bK s.groups) s.vars w)):=by
 have hv:=hs.v;have nv:=hs.nv;have hor:=AD s (by have:=hs.ng;omega)
 have hoV:=eF hs.g;obtain⟨gs,vs,es⟩:=s;simp only at hv hwl nv hor hoV⊢;have l2:(vs.map cO).length=vs.length:=aL ..;have l5:(w.map Zp).length=vs.length:=by rw[aL];exact hwl
 generalize bK gs=oq at*;unfold cK.pv at*;simp only at*;refine eW call316 func316 ?_;refine dY @l2 ?_;refine ak (α:=Nat) (fun i=>vs.length-i) (fun i=>⟨[(1, .v (.sl (w.map Zp))),(2, .p 1000 0 0),(9, .v (.sl (vs.map cO))),(10,E' vs.length),(11,E' i)],[(1000,⟨0,[.v (.sl (gs.map dS)), .v (.sl (vs.map cO)), .v (.sl (es.map dr.pv))],false,none⟩)],_⟩) (fun i=>i<=vs.length/\ ∀j,j<i->jc (vs.getD j []) (w.getD j 0) (fG oq (vs.getD j []))=true) 0 (fun _=>aD _) ⟨aR _,fun j hj=>oO⟩ ?_ ?_
 ·exact lE
 ·rintro i ⟨hi,hall⟩ R hR
  by_cases hlt:i<vs.length
  ·have e1:=getD_map cO vs [] hlt;have e2:=getD_map Zp w 0 (i:=i) oO;have kb:=hv _ (aC [] hlt);have kw:=hw _ (aC 0 (show i<w.length by omega))
   have hgo:=fun h=>hR (i+1) ⟨oO,h⟩ oO
   have hbad:=fun h: ¬jc (vs.getD i []) (w.getD i 0) (fG oq (vs.getD i []))=true=>qa (p:=fun i=>jc (vs.getD i []) (w.getD i 0) (fG oq (vs.getD i []))) hlt (dy.2 h)
   have hnx:jc (vs.getD i []) (w.getD i 0) (fG oq (vs.getD i []))=true-> ∀j,j<i+1->jc (vs.getD j []) (w.getD j 0) (fG oq (vs.getD j []))=true:=fun h j hj=>by
    by_cases hji:j<i
    ·exact hall j hji
    ·obtain rfl:j=i:=oO;exact h
   rw[<-BQ]at hbad;clear hR hall;generalize vs.getD i []=b at*;generalize w.getD i 0=x at*;have hz:=(rA kw);simp only[je,cr,ba]at hz;have hc:=jH hz.1 kb.1;have hc':=jH hz.1 hoV.1;simp only[uy]at hc hc';have hd: ∀L:Nat,decide (aZ x.natAbs L>=0)= !decide (x.natAbs<L):=fun L=>Jy _ _
   simp only[cO]at e1;simp only[Zp,cU,je]at e2;simp only[jc,fG]at hbad hnx
   by_cases hb:b=[]
   ·subst hb;simp only[az,decide_true,cj]at hbad hnx;have hzs:zs x=decide (x<0):=rfl;have h1:=hd (num oq);clear hd hc kb;generalize aZ x.natAbs (num oq)=cm at*;generalize decide (x.natAbs<num oq)=p at*;generalize hq:decide (x<0)=q at*;cases q
    ·cases p
     ·rw[hbad (by simp)]
      exact zA (aN @l2 (aN @l5 (aN @e1 (aN @e2 (aN @hzs (aN @h1 @nn)))))) @hor @hc'
     ·have hgo:=hgo (hnx (by simp))
      exact zu (aN @l2 (aN @l5 (aN @e1 (aN @e2 (aN @hzs (aN @h1 @nn)))))) @hgo @hor @hc'
    ·rw[hbad (by simp)]
     exact zA (aN @l2 (aN @l5 (aN @e1 (aN @e2 (aN @hzs (aN @h1 @nn)))))) @hor @hc'
   ·have hbb:(b==[])=false:=by simpa using hb
    simp only[af hb,bL hb,db,cG,gj]at hbad hnx;have h1:=hd (num b);clear hd hc' kb;generalize aZ x.natAbs (num b)=cm at*;generalize decide (x.natAbs<num b)=p at*;cases p
    ·rw[hbad (by simp)]
     exact lF (aN @l2 (aN @l5 (aN @e1 (aN @e2 (aN @hbb @h1))))) @hc
    ·have hgo:=hgo (hnx rfl);exact kp (aN @l2 (aN @l5 (aN @e1 (aN @e2 (aN @hbb @h1))))) @hgo @hc
  ·obtain rfl:i=vs.length:=oO;have hg:BQ oq vs w=true:=pD fun j hj=>hall j hj
   rw[hg];exact z0
noncomputable def BL (s:cK) (w:List Int):Bool:=decide (uj s w=s.eqs.map (·.tgt))
theorem JF {s:cK} (hs:Bo s) {w:List Int} (hwl:w.length=s.vars.length) (hw: ∀x∈w,x.natAbs<dC) (hW:BQ (bK s.groups) s.vars w=true->WS s w):aE 195 [s.pv, .sl (w.map Zp)] (.tup [.b (BQ (bK s.groups) s.vars w&&BL s w),E 0]):=by
 have ne:=hs.ne;have hr:=HU hs hwl hw;have hi:=JG hs hwl hw;have hm:=fun h=>HK hs (hW h)
 have hL:=BN s w;unfold BL;generalize uj s w=L at*;obtain⟨gs,vs,es⟩:=s;simp only[cK.pv]at hr hi hm hL⊢;have l3:(es.map dr.pv).length=es.length:=aL ..;have l4:(L.map PV.s).length=es.length:=by rw[aL];exact hL
 simp only at ne;clear hs hW hw hwl;generalize BQ (bK gs) vs w=b at*;cases b
 ·refine eW call195 func195 ?_;exact z2 @hr @hi
 have hm:=hm rfl;refine eW call195 func195 ?_;refine tN @l3 @hr @hi @hm oT ?_;refine ak (α:=Nat) (fun i=>es.length-i) (fun i=>⟨[(2, .p 1000 0 0),(7, .v (.sl (L.map .s))),(31, .v (.sl (es.map dr.pv))),(32,E' es.length),(33,E' i)],[(1000,⟨0,[.v (.sl (gs.map dS)), .v (.sl (vs.map cO)), .v (.sl (es.map dr.pv))],false,none⟩)],_⟩) (fun i=>i<=es.length/\ ∀j,j<i->L.getD j []=(es.getD j gN).tgt) 0 (fun _=>aD _) ⟨aR _,fun j hj=>oO⟩ ?_ ?_
 ·exact lE
 ·rintro i ⟨hi,hall⟩ R hR
  by_cases hlt:i<es.length
  ·have e1:=getD_map dr.pv es gN hlt;have e2:=getD_map PV.s L [] (i:=i) oO;have hgo:=fun h=>hR (i+1) ⟨oO,h⟩ oO
   have hnx:L.getD i []=(es.getD i gN).tgt-> ∀j,j<i+1->L.getD j []=(es.getD j gN).tgt:=fun h j hj=>by
    by_cases hji:j<i
    ·exact hall j hji
    ·obtain rfl:j=i:=oO;exact h
   have hbad: ¬L.getD i []=(es.getD i gN).tgt->decide (L=es.map (·.tgt))=false:=fun h=>bL fun g=>h (by rw[g];simp[ca,hlt])
   clear hR hall;generalize es.getD i gN=q at*;generalize L.getD i []=x at*;obtain⟨g,t,ts⟩:=q;simp only[dr.pv]at e1 hbad hnx
   by_cases hxt:x=t
   ·have hgo:=hgo (hnx hxt);have e3:(x==t)=true:=by simpa using hxt
    exact ko (aN @l3 (aN @l4 (aN @e1 (aN @e2 @e3)))) @hgo
   ·have e3:(x==t)=false:=by simpa using hxt
    rw[hbad hxt];exact gU (aN @l3 (aN @l4 (aN @e1 (aN @e2 @e3))))
  ·obtain rfl:i=es.length:=oO;rw[aV (PF hL hall)];exact z0
def lM (o c sl b:Bytes):Nat:=if b=[]then num o else pI c sl b
def lR (o c sl b:Bytes):Nat:=if b=[]then num o else Mp c sl b
def lP (o c sl b:Bytes):PV:= .agg [N (lM o c sl b),N (lR o c sl b)]
structure uV (c sl:Bytes) (s:cK):Prop where
 r:si c sl
 g:Bo s
 m: ∀b∈s.vars,b=[]->num c<=num (bK s.groups)
theorem oK (b:Bytes):aE 320 [cO b] (E (if b=[]then 0 else 1)):=by
 by_cases h:b=[]
 ·subst h;unfold cO;refine eW call320 func320 ?_;exact gU @nn
 ·rw[af h];exact NO h
theorem EZ (c sl q b:Bytes):aE 321 [.agg [.s c, .s sl, .s q], .s b] (.tup [.agg [.s q, .s q],E 0]):=by
 refine eW call321 func321 ?_;exact z0
theorem ZD (o c sl:Bytes):cT (lP o c sl) 2:=⟨fun _=>rfl,fun x y hy=>by simp[lP,PV.cells]at hy;rcases hy with rfl|rfl<;>rfl,fun h=>oO,fun _ x=>rfl⟩
theorem yZ {s:cK} (h:uV c sl s):aE 197 [.agg [.s c, .s sl],s.pv] (.tup [.sl (s.vars.map (lP (bK s.groups) c sl)),E 0]):=by
 obtain⟨hr,hs,hm⟩:=h;have hck:=HN hs.b;rw[hs.ck]at hck;have hor:=Bd s (by have:=hs.ng;omega)
 have hoV:=eF hs.g;have v1:=aG c;have v2:=aG sl;rw[hr.vc]at v1;rw[hr.vs]at v2;have c1:=l7 hr.vc;have c2:=l7 hr.vs;have d1: ∀ _:True,decide (aZ (num c) 2<0)=false:=fun _=>bL (fun g=>by have:=fy.1 g;have:=hr.c2;omega)
 have d2: ∀ _:True,decide (aZ (num sl) 2<0)=false:=fun _=>bL (fun g=>by have:=fy.1 g;have:=hr.s2;omega)
 have c3:=jH hr.vc hoV.1;generalize aZ (num c) 2=cm1 at*;generalize aZ (num sl) 2=cm2 at*;have hv:=hs.v;have nv:=hs.nv;obtain⟨gs,vs,es⟩:=s;simp only at hv hm nv hor hoV c3⊢;generalize bK gs=q at*;have d3: ∀b∈vs,b=[]->decide (aZ (num c) (num q)>0)=false:=fun b hb h=>bL fun g=>by
  have:=hm b hb h;unfold aZ at g
  split at g
  ·omega
  ·split at g<;>omega
 generalize aZ (num c) (num q)=cm3 at*;have eq:=dZ hoV.1;have l2:(vs.map cO).length=vs.length:=aL ..;clear hm hoV;unfold cK.pv at*;simp only at*;refine eW call197 func197 ?_;refine Rl (aN (d1 oT) (aN (d2 oT) @l2)) @v1 @v2 @hck @V3 @c1 @c2 @hor ?_;refine ak (α:=Nat) (fun i=>vs.length-i) (fun i=>⟨[(2, .p 1000 0 0),(3, .p 1001 0 0),(8, .p 1037 0 0),(50, .v (.sl (vs.map cO))),(51,E' vs.length),(52,E' i)],[(1000,⟨0,[.v (.s c), .v (.s sl)],false,none⟩),(1001,⟨0,[.v (.sl (gs.map dS)), .v (.sl (vs.map cO)), .v (.sl (es.map dr.pv))],false,none⟩),(1037,⟨0,[.v (.s c), .v (.s sl), .v (.s q)],false,some 363⟩)],_⟩) (fun i=>i<=vs.length) 0 (fun _=>aD _) (aR _) ?_ ?_
 ·exact lE
 ·intro i hi R hR
  by_cases hlt:i<vs.length
  ·have e1:=getD_map cO vs [] hlt;have hk:=oK (vs.getD i []);have d3:=d3 _ (aC [] hlt);have hgo:=hR (i+1) oO oO;clear hR;generalize vs.getD i []=b at*;simp only[cO]at e1 hk
   by_cases hb:b=[]
   ·rw[ah hb]at hk;have d3:=d3 hb;exact zu (aN @l2 (aN @e1 @d3)) @hgo @hk @c3
   ·rw[af hb]at hk;exact kp (aN @l2 @e1) @hgo @hk
  ·obtain rfl:i=vs.length:=oO;have hL:=ZD q c sl;have row0: ∀{i:Nat},i<vs.length->aX (lP q c sl) (vs.take (i+1))=aX (lP q c sl) (vs.take i)++[.v (N (lM q c sl (vs.getD i []))), .v (N (lR q c sl (vs.getD i [])))]:=fun h=>by
    rw[aQ [] h,cu];rfl
   clear hR d3 c1 c2 c3 d1 d2 hlt
   by_cases hpos:0<vs.length
   ·refine dY @l2 ?_;refine aj ?_;have e1:=getD_map cO vs [] hpos;have hk:=oK (vs.getD 0 []);have r1:=row0 hpos;have hcs:(vs.getD 0 []=[]/\aE 321 [.agg [.s c, .s sl, .s q], .s (vs.getD 0 [])] (.tup [.agg [N (lM q c sl (vs.getD 0 [])),N (lR q c sl (vs.getD 0 []))],E 0]))\/(vs.getD 0 []≠[]/\aE 322 [.agg [.s c, .s sl, .s q], .s (vs.getD 0 [])] (.tup [.agg [N (lM q c sl (vs.getD 0 [])),N (lR q c sl (vs.getD 0 []))],E 0])):=by
     by_cases h:vs.getD 0 []=[]
     ·refine .inl ⟨h,?_⟩;rw[h,lM,lR,ah rfl,ah rfl,eq];exact EZ c sl q []
     ·obtain⟨k1,k3⟩:=hv _ (aC [] hpos);refine .inr ⟨h,?_⟩;rw[lM,lR,af h,af h];exact sW (q:=q) hr k1 h k3
    generalize lM q c sl (vs.getD 0 [])=A at*;generalize lR q c sl (vs.getD 0 [])=B at*;generalize vs.getD 0 []=b at*;simp only[cO]at e1 hk;rcases hcs with⟨hb,hi1⟩|⟨hb,hi1⟩
    all_goals
     first|rw[ah hb]at hk|rw[af hb]at hk
     refine G4 (aN @l2 @e1) @hk @hi1 ?_;refine ak (α:=Nat) (fun j=>vs.length-(j+1)) (fun j=>⟨[(11, .p 1049 0 0),(12, .rs 1079 j 0 (j+1) 2),(74, .v (.sl (vs.map cO))),(75,E' vs.length),(76,E' (j+1))],[(1049,⟨0,[.fn (.func 321) [.v (.agg [.s c, .s sl, .s q])] [], .fn (.func 322) [.v (.agg [.s c, .s sl, .s q])] []],false,some 366⟩),(1079,⟨j,aX (lP q c sl) (vs.take (j+1)),true,some 277⟩)],1083⟩) (fun j=>j+1<=vs.length) 0 (fun _=>dF rfl) hpos ?_ ?_
     ·rw[eK,r1,List.take_zero,show aX (lP q c sl) []=[]from rfl]
      exact lE
     ·clear e1 hk hi1 r1 hb;intro j hj R hR;have hj1:(vs.take (j+1)).length=j+1:=by rw[cf];omega
      have q1:=cF hL (vs.take (j+1));have q2:=cR hL (vs.take (j+1));rw[hj1]at q1 q2
      by_cases hlt:j+1<vs.length
      ·have hgo:=hR (j+1) oO oO;clear hR;have e1:=getD_map cO vs [] hlt;have hk:=oK (vs.getD (j+1) []);have r1:=row0 hlt;have hcs:(vs.getD (j+1) []=[]/\aE 321 [.agg [.s c, .s sl, .s q], .s (vs.getD (j+1) [])] (.tup [.agg [N (lM q c sl (vs.getD (j+1) [])),N (lR q c sl (vs.getD (j+1) []))],E 0]))\/(vs.getD (j+1) []≠[]/\aE 322 [.agg [.s c, .s sl, .s q], .s (vs.getD (j+1) [])] (.tup [.agg [N (lM q c sl (vs.getD (j+1) [])),N (lR q c sl (vs.getD (j+1) []))],E 0])):=by
        by_cases h:vs.getD (j+1) []=[]
        ·refine .inl ⟨h,?_⟩;rw[h,lM,lR,ah rfl,ah rfl,eq];exact EZ c sl q []
        ·obtain⟨k1,k3⟩:=hv _ (aC [] hlt);refine .inr ⟨h,?_⟩;rw[lM,lR,af h,af h];exact sW (q:=q) hr k1 h k3
       generalize lM q c sl (vs.getD (j+1) [])=A at*;generalize lR q c sl (vs.getD (j+1) [])=B at*;generalize vs.getD (j+1) []=b at*;simp only[cO]at e1 hk;rcases hcs with⟨hb,hi1⟩|⟨hb,hi1⟩
       all_goals
        first|rw[ah hb]at hk|rw[af hb]at hk
        rw[r1]at hgo;refine tO (aN @l2 (aN @e1 (aN @q1 @q2))) @hk @hi1 ?_;refine hgo _ ?_
        (refine AS.Le.of (by first|decide|omega) ?_ ?_<;>simp[dA,dz,aS,aB,AV.bd,AV.bd.bdL,u8,aq,au,aA])
        all_goals (intro c hc;rcases hc with h|h|h<;>first|exact cI h|(subst h;rfl))
      ·obtain hjv:j+1=vs.length:=oO;rw[hjv,cg]at q1 q2;rw[hjv,cg];have q3:=dU hL vs;have q4:=dj hL vs;repeat' first|simp only[go_sem,seval,l2,q1,q2,q3,q4,eJ]|refine oE ?_|apply xX<;>intro hc
       all_goals skip
   ·obtain rfl:vs=[]:=fg.1 oO;exact V0 @l2
theorem ES {s:cK} (h:uV c sl s):aE 185 [.agg [.s c, .s sl],s.pv] (.tup [.sl (s.vars.map fun b=>N (lM (bK s.groups) c sl b)), .sl (s.vars.map fun b=>N (lR (bK s.groups) c sl b)),E 0]):=by
 have hb:=yZ h;have nv:=h.g.nv;obtain⟨gs,vs,es⟩:=s;simp only at hb nv⊢;clear h;generalize bK gs=o at*;have l2:(vs.map (lP o c sl)).length=vs.length:=aL ..;unfold cK.pv at*;simp only at*
 by_cases hpos:0<vs.length
 rotate_left
 ·obtain rfl:vs=[]:=fg.1 oO;refine eW call185 func185 ?_;exact YO @hb
 have hM:cT (fun b=>N (lM o c sl b)) 1:=⟨fun _=>rfl,fun _ y hy=>by cases fR.1 hy;rfl,fun _ _=>rfl,fun h=>aM rfl h⟩
 have hR0:cT (fun b=>N (lR o c sl b)) 1:=⟨fun _=>rfl,fun _ y hy=>by cases fR.1 hy;rfl,fun _ _=>rfl,fun h=>aM rfl h⟩
 have row1: ∀{i:Nat},i<vs.length->aX (fun b=>N (lM o c sl b)) (vs.take (i+1))=aX (fun b=>N (lM o c sl b)) (vs.take i)++[.v (N (lM o c sl (vs.getD i [])))]:=fun h=>by
  rw[aQ [] h,cu];rfl
 have Kf: ∀{i:Nat},i<vs.length->aX (fun b=>N (lR o c sl b)) (vs.take (i+1))=aX (fun b=>N (lR o c sl b)) (vs.take i)++[.v (N (lR o c sl (vs.getD i [])))]:=fun h=>by
  rw[aQ [] h,cu];rfl
 refine eW call185 func185 ?_;refine rU @l2 @hb ?_;refine aj ?_;have e1:=getD_map (lP o c sl) vs [] hpos;have r1:=row1 hpos;have r2:=Kf hpos;simp only[lP]at e1;refine dY (aN @l2 @e1) ?_;refine ak (α:=Nat) (fun j=>vs.length-(j+1)) (fun j=>⟨[(9, .rs 1029 j 0 (j+1) 1),(10, .rs 1034 j 0 (j+1) 1),(22, .v (.sl (vs.map (lP o c sl)))),(23,E' vs.length),(24,E' (j+1))],[(1029,⟨j,aX (fun b=>N (lM o c sl b)) (vs.take (j+1)),true,some 22⟩),(1034,⟨j,aX (fun b=>N (lR o c sl b)) (vs.take (j+1)),true,some 22⟩)],1039⟩) (fun j=>j+1<=vs.length) 0 (fun _=>dF rfl) hpos ?_ ?_
 ·rw[eK,r1,r2,List.take_zero,show aX (fun b=>N (lM o c sl b)) []=[]from rfl,show aX (fun b=>N (lR o c sl b)) []=[]from rfl]
  exact lE
 ·intro j hj R hR;have hj1:(vs.take (j+1)).length=j+1:=by rw[cf];omega
  have q1:=cF hM (vs.take (j+1));have q2:=cR hM (vs.take (j+1));have q5:=cF hR0 (vs.take (j+1));have q6:=cR hR0 (vs.take (j+1));rw[hj1,dK]at q1 q2 q5 q6
  by_cases hlt:j+1<vs.length
  ·have e1:=getD_map (lP o c sl) vs [] hlt;have r1:=row1 hlt;have r2:=Kf hlt;simp only[lP]at e1;have hgo:=hR (j+1) oO oO;rw[r1,r2]at hgo;clear hR;refine eC (aN @l2 (aN @e1 (aN @q1 (aN @q2 (aN @q5 @q6))))) ?_;refine hgo _ ?_
   (refine AS.Le.of (by first|decide|omega) ?_ ?_<;>simp[dA,dz,aS,aB,AV.bd,AV.bd.bdL,u8,aq,au,aA])
   all_goals (refine⟨?_,?_⟩<;>(intro c hc;rcases hc with h|h<;>first|exact cI h|(subst h;rfl)))
  ·obtain hjv:j+1=vs.length:=oO;rw[hjv,cg]at q1 q2 q5 q6;rw[hjv,cg];have q3:=dU hM vs;have q4:chunk 1 vs.length (List.flatMap (fun x=>[PV.s (bR (lM o c sl x))]) vs)=vs.map fun b=>N (lM o c sl b):=dj hM vs
   have q7:=dU hR0 vs;have q8:chunk 1 vs.length (List.flatMap (fun x=>[PV.s (bR (lR o c sl x))]) vs)=vs.map fun b=>N (lR o c sl b):=dj hR0 vs
   repeat' first|simp only[go_sem,seval,l2,q1,q2,q3,q4,q5,q6,q7,q8,eJ]|refine oE ?_|apply xX<;>intro hc
   all_goals skip
def og (o c sl:Bytes) (vs:List Bytes) (sd b:Bytes) (i:Nat):Except Int Int:=
 if b=[]then(match kK vs sd i o with
  | .error e=> .error e
  | .ok x=> .ok (num x:Int))else y7 vs sd i (pI c sl b)
def nu (o c sl:Bytes) (vs:List Bytes) (sd:Bytes):List Bytes->Nat->List Int->Except Int (List Int)
 |[],_,acc=> .ok acc
 |b::us,i,acc=>match og o c sl vs sd b i with
  | .error e=> .error e
  | .ok z=>nu o c sl vs sd us (i+1) (acc++[z])
theorem xN (h:og o c sl vs sd b i= .error e):e=2\/e=14:=by
 unfold og at h
 split at h
 ·split at h
  ·rename_i e' he;injection h with h
   subst h;exact qe he
  ·cases h
 ·exact Km h
theorem yk: ∀{us:List Bytes} {i:Nat} {acc:List Int},nu o c sl vs sd us i acc= .error e->e=2\/e=14:=by
 intro us
 induction us with
 |nil=>intro i acc h;cases h
 |cons b us ih=>
  intro i acc h;rw[nu]at h
  split at h
  ·rename_i e' he;injection h with h
   subst h;exact xN he
  ·exact ih h
theorem HZ (h:o.length<=8):num o<dC:=b9 (dO h) (by unfold dC;decide+kernel)
theorem RQ (hr:si c sl) (lo:o.length<=8) (lb:b.length<=16):lM o c sl b<dC:=by
 unfold lM;split
 ·exact HZ lo
 ·exact vZ hr lb
theorem BD {z:Int} (hr:si c sl) (vo:aa o=true) (hb:aa b=true/\b.length<=16) (hv:vs.all aa=true) (hl:vs.length<1000000) (hi:i<=2147483647) (h:og o c sl vs sd b i= .ok z):jc b z (lM o c sl b)=true/\i+1<=2147483647:=by
 unfold og at h
 split at h
 ·rename_i hb0
  split at h
  ·cases h
  ·rename_i x hx;injection h with h
   subst h;obtain⟨-,h2,h3⟩:=nL hv vo hl hi hx;refine⟨?_,h3⟩;simp only[jc,lM,hb0,az,ba,bM,dW,cj,lD,decide_true];omega
 ·rename_i hb0;have hm:=BY hr hb.1 hb0 hb.2;obtain⟨h2,h3⟩:=NM hv hm.1 oO hl hi h;refine⟨?_,h3⟩;simp only[jc,lM,hb0,ar,decide_false,db,cG,gj,bM];exact h2
theorem Qb (hr:si c sl) (vo:aa o=true) (hv:vs.all aa=true) (hl:vs.length<1000000): ∀(us:List Bytes) (i:Nat) (acc l:List Int),(∀b∈us,aa b=true/\b.length<=16)->i<=2147483647->nu o c sl vs sd us i acc= .ok l-> ∃r,l=acc++r/\r.length=us.length/\(∀j,j<us.length->jc (us.getD j []) (r.getD j 0) (lM o c sl (us.getD j []))=true)/\i+us.length<=2147483647:=by
 intro us
 induction us with
 |nil=>intro i acc l _ hi h;injection h with h;exact⟨[],by simp[h],rfl,(fun j hj=>(qz _ hj).elim),hi⟩
 |cons b us ih=>
  intro i acc l hb hi h;rw[nu]at h
  split at h
  ·cases h
  ·rename_i z hz;obtain⟨h3,h4⟩:=BD hr vo (hb b (.head _)) hv hl hi hz;obtain⟨r,h5,h6,h7,h8⟩:=ih _ _ _ (fun b' hm=>hb b' (.tail _ hm)) h4 h
   refine⟨z::r,by rw[h5];simp,by simp[h6],?_,by simp;omega⟩
   intro j hj
   cases j with
   |zero=>exact h3
   |succ j=>exact h7 j (by simpa using hj)
theorem BO (h:jc b x L=true):x.natAbs<L/\(b=[]->0<=x):=by
 simp only[jc,ba,bM,dW,Bool.and_eq_false_imp,lD]at h;exact⟨h.1,fun hb=>by have:=h.2 hb;omega⟩
theorem ym {s:cK} (hp:uV c sl s) (hv:vs.all aa=true) (hi:i<=2147483647) (hl:vs.length<1000000) {ms:List Int} (h:nu (bK s.groups) c sl vs sd s.vars i []= .ok ms):
  ms.length=s.vars.length/\(∀j,j<s.vars.length->jc (s.vars.getD j []) (ms.getD j 0) (lM (bK s.groups) c sl (s.vars.getD j []))=true)/\i+s.vars.length<=2147483647/\ ∀x∈ms,x.natAbs<dC:=by
 have ho:=eF hp.g.g;obtain⟨r,h1,h2,h3,h4⟩:=Qb hp.r ho.1 hv hl _ _ _ _ hp.g.v hi h;rw[List.nil_append]at h1;subst h1;refine⟨h2,h3,h4,fun x hx=> ?_⟩
 obtain⟨j,hj,rfl⟩:=gR hx;have:=(BO (h3 j oO)).1;rw[ca,bZ hj]at this;exact iM this (RQ hp.r ho.2 (hp.g.v _ (aC [] oO)).2)
theorem Uz {a:Bytes} (h:a.length<=16):num a<256^16:=b9 (ct a) (cM oC h)
theorem Wx {s:cK} (hs:Bo s) {w:List Int} (hwl:w.length=s.vars.length) (hw: ∀x∈w,x.natAbs<256^100):WS s w:=by
 intro q hq t ht;obtain⟨t1,t2,t3,t4⟩:=(hs.q q hq).2.2.2.2 t ht;have hl:=((hs.b.q q hq).2 t ht);have hx:=hw _ (aC 0 (show t.var.toNat<w.length by omega))
 refine⟨t1,oO,t4,iM hx (by unfold dC;exact Db oC oC),?_⟩
 rw[Dg];refine eu (j9 (j3 (Uz hl)) (j3 hx)) ?_;unfold dC;rw[<-cY];exact Db oC oC
theorem Ml (hr:si c sl) (lo:o.length<=8) (lb:b.length<=16):lM o c sl b<256^33:=by
 unfold lM;split
 ·exact b9 (dO lo) (by decide+kernel)
 ·have h1:num sl*num c<(2^64)*(2^64):=fE (dO hr.ls) (dO hr.lc);have h2:pI c sl b<(2^64)*(2^64)*dM:=fE h1 (Ei lb);exact b9 h2 (by unfold dM;decide+kernel)
theorem PB {s:cK} (hp:uV c sl s) (ho:[]∈s.vars->bK s.groups≠[]) (hv:vs.all aa=true) (hi:i<=2147483647) (hl:vs.length<1000000) (hsd:sd.length<1000000):
  aE 198 [s.pv, .sl (s.vars.map (lP (bK s.groups) c sl)),T vs sd i] (Mt vs sd (i+s.vars.length) (nu (bK s.groups) c sl vs sd s.vars i [])):=by
 have hb:=hp.g.v;have nv:=hp.g.nv;have hr:=hp.r;have vo:=(eF hp.g.g).1;obtain⟨gs,us,es⟩:=s;simp only at hb nv ho vo⊢;clear hp;generalize bK gs=o at*;have l2:(us.map cO).length=us.length:=aL ..;have l3:(us.map (lP o c sl)).length=us.length:=aL ..;obtain⟨R0,hR0⟩: ∃R0,R0=nu o c sl vs sd (us.drop 0) i []:=⟨_,rfl⟩;rw[show nu o c sl vs sd us i []=nu o c sl vs sd (us.drop 0) i []from rfl,<-hR0]
 unfold cK.pv;simp only
 by_cases hpos:0<us.length
 rotate_left
 ·obtain rfl:us=[]:=fg.1 oO;rw[List.drop_nil,nu]at hR0;subst hR0;refine eW call198 func198 ?_;exact On
 refine eW call198 func198 ?_;refine dY @l2 ?_;refine aj ?_;have hz0:0<us.length:=hpos;have e1:=getD_map cO us [] hpos;have e2:=getD_map (lP o c sl) us [] hpos;have kb:=hb _ (aC [] hpos);have hk:=oK (us.getD 0 []);have hdo:=fun hi z (h:og o c sl vs sd (us.getD 0 []) i= .ok z)=>(BD (i:=i) hr vo kb hv hl hi h).2
 have hcs:(us.getD 0 []=[]/\ ∀ _:i<=2147483647,aE 37 [T vs sd (i:Nat),N (lM o c sl (us.getD 0 []))] (match og o c sl vs sd (us.getD 0 []) i with
   | .ok z=> .tup [.s (zb z),T vs sd ((i+1:Nat):Int),E 0]
   | .error e=> .tup [.s [],T [] [] 0,E e])/\ ∀z,og o c sl vs sd (us.getD 0 []) i= .ok z->zs z=false)\/(us.getD 0 []≠[]/\ ∀ _:i<=2147483647,aE 323 [T vs sd (i:Nat),N (lM o c sl (us.getD 0 []))] (sV vs sd i (og o c sl vs sd (us.getD 0 []) i))):=by
  by_cases h:us.getD 0 []=[]
  ·refine .inl ⟨h,fun hi=> ?_⟩
   have hbl:=nD (sd:=sd) (n:=o) hv vo (ho (by rw[<-h];exact aC [] hpos)) hi hl hsd
   rw[lM,ah h,dZ vo];unfold og;rw[ah h]
   cases hd:kK vs sd (i) o with
   |error e=>
    rw[hd]at hbl;exact⟨hbl,fun z hz=>by cases hz⟩
   |ok x=>
    have hx:=(nL hv vo hl hi hd).1;rw[hd]at hbl;refine⟨?_,fun z hz=>by dsimp only at hz;injection hz with hz;subst hz;simp[zs]⟩
    dsimp only;rw[show zb (num x:Int)=x from by rw[zb,Int.natAbs_natCast];exact fm hx]
    exact hbl
  ·have hm:=BY hr kb.1 h kb.2;refine .inr ⟨h,fun hi=> ?_⟩
   rw[lM,af h,og,af h];exact Ae (vs:=vs) (sd:=sd) (i:=i) hv hi hl hsd hm.1 hm.2
 rw[bc [] hpos,nu]at hR0;clear kb;generalize us.getD 0 []=u at*;simp only[cO]at e1 hk;simp only[lP]at e2;generalize lM o c sl u=M at*;generalize lR o c sl u=Rr at*;rcases hcs with⟨hu,hg⟩|⟨hu,hg⟩
 all_goals
  first|rw[ah hu]at hk|rw[af hu]at hk
  have hg:=hg hi
  cases hsg:og o c sl vs sd u i with
  |error e=>
   rw[hsg]at hg hR0;simp only[sV]at hg hR0;have he:(e !=0)=true:=by rcases xN hsg with rfl|rfl<;>rfl
   subst hR0
   first
    |have hg:=hg.1
    |skip
   exact zA (aN @l2 (aN @l3 (aN @e1 (aN @e2 @he)))) @hk @hg
  |ok z=>
   have hsi:i+(0+1)<=2147483647:=hdo hi z hsg;rw[hsg]at hg hR0;simp only[sV]at hg hR0
   first
    |(have hzz:=hg.2 z rfl
      have hg:=hg.1)
    |have hzz:zs z=zs z:=rfl
   refine tO (aN @l2 (aN @l3 (aN @e1 @e2))) @hk @hg ?_;obtain⟨nm,hnm⟩: ∃nm,nm=(if u=[]then 1042 else 1041):=⟨_,rfl⟩
   first|rw[ah hu]at hnm|rw[af hu]at hnm
   clear e1 e2 hk hg hdo hu;refine ak (α:=Nat×List Int) (fun p=>us.length-(p.1+1)) (fun p=>⟨[(1, .v (.sl (us.map (lP o c sl)))),(3, .p 1000 0 0),(5, .p 1001 0 0),(7, .p 1003 0 0),(9, .rs nm p.1 0 (p.1+1) 2),(15, .v (.sl (us.map cO))),(16,E' us.length),(17,E' (p.1+1))],[(1000,⟨0,[.v (.sl (gs.map dS)), .v (.sl (us.map cO)), .v (.sl (es.map dr.pv))],false,none⟩),(1001,⟨0,[.v (.sl (vs.map .s)), .v (.s sd), .v (.i .i64 ((i+(p.1+1):Nat):Int))],false,none⟩),(1003,⟨0,[.sn, .v (.s []), .v (.i .i64 0)],false,some 41⟩),(nm,⟨p.1,aX Zp p.2,true,some 94⟩)],1045⟩) (fun p=>p.1+1<=us.length/\p.2.length=p.1+1/\i+(p.1+1)<=2147483647/\R0=nu o c sl vs sd (us.drop (p.1+1)) (i+(p.1+1)) p.2) (0,[z]) (fun _=>dF rfl) ⟨hpos,rfl,hsi,hR0⟩ ?_ ?_<;>subst hnm
   ·refine lG ?_;all_goals exact⟨by first|rfl|(rw[<-hzz];rfl),fun c hc=>cI hc⟩
   ·clear hzz hR0 hsi;rintro⟨j,ms⟩ ⟨hj,hlm,hij,hR0⟩ R hR;simp only at hj hlm hij hR0;have q1:=cF Fk ms;have q2:=cR Fk ms;rw[hlm]at q1 q2
    by_cases hlt:j+1<us.length
    ·have e1:=getD_map cO us [] hlt;have e2:=getD_map (lP o c sl) us [] hlt;have kb:=hb _ (aC [] hlt);have hk:=oK (us.getD (j+1) []);have hdo:=fun hi z (h:og o c sl vs sd (us.getD (j+1) []) (i+(j+1))= .ok z)=>(BD (i:=(i+(j+1))) hr vo kb hv hl hi h).2
     have hcs:(us.getD (j+1) []=[]/\ ∀ _:(i+(j+1))<=2147483647,aE 37 [T vs sd ((i+(j+1)):Nat),N (lM o c sl (us.getD (j+1) []))] (match og o c sl vs sd (us.getD (j+1) []) (i+(j+1))with
       | .ok z=> .tup [.s (zb z),T vs sd (((i+(j+1))+1:Nat):Int),E 0]
       | .error e=> .tup [.s [],T [] [] 0,E e])/\ ∀z,og o c sl vs sd (us.getD (j+1) []) (i+(j+1))= .ok z->zs z=false)\/(us.getD (j+1) []≠[]/\ ∀ _:(i+(j+1))<=2147483647,aE 323 [T vs sd ((i+(j+1)):Nat),N (lM o c sl (us.getD (j+1) []))] (sV vs sd (i+(j+1)) (og o c sl vs sd (us.getD (j+1) []) (i+(j+1))))):=by
      by_cases h:us.getD (j+1) []=[]
      ·refine .inl ⟨h,fun hi=> ?_⟩
       have hbl:=nD (sd:=sd) (n:=o) hv vo (ho (by rw[<-h];exact aC [] hlt)) hi hl hsd
       rw[lM,ah h,dZ vo];unfold og;rw[ah h]
       cases hd:kK vs sd ((i+(j+1))) o with
       |error e=>
        rw[hd]at hbl;exact⟨hbl,fun z hz=>by cases hz⟩
       |ok x=>
        have hx:=(nL hv vo hl hi hd).1;rw[hd]at hbl;refine⟨?_,fun z hz=>by dsimp only at hz;injection hz with hz;subst hz;simp[zs]⟩
        dsimp only;rw[show zb (num x:Int)=x from by rw[zb,Int.natAbs_natCast];exact fm hx]
        exact hbl
      ·have hm:=BY hr kb.1 h kb.2;refine .inr ⟨h,fun hi=> ?_⟩
       rw[lM,af h,og,af h];exact Ae (vs:=vs) (sd:=sd) (i:=(i+(j+1))) hv hi hl hsd hm.1 hm.2
     rw[bc [] hlt,nu]at hR0;clear kb;generalize us.getD (j+1) []=u at*;simp only[cO]at e1 hk;simp only[lP]at e2;generalize lM o c sl u=M at*;generalize lR o c sl u=Rr at*;rcases hcs with⟨hu,hg⟩|⟨hu,hg⟩
     all_goals
      first|rw[ah hu]at hk|rw[af hu]at hk
      have hg:=hg hij
      cases hsg:og o c sl vs sd u (i+(j+1))with
      |error e=>
       rw[hsg]at hg hR0;simp only[sV]at hg hR0;have he:(e !=0)=true:=by rcases xN hsg with rfl|rfl<;>rfl
       subst hR0;clear hR
       first
        |have hg:=hg.1
        |skip
       exact zA (aN @l2 (aN @l3 (aN @e1 (aN @e2 (aN @he (aN @q1 @q2)))))) @hk @hg
      |ok y=>
       have hsi:i+(j+1+1)<=2147483647:=hdo hij y hsg;rw[hsg]at hg hR0;simp only[sV]at hg hR0;have hgo:=hR (j+1,ms++[y]) ⟨oO,by simp[hlm],hsi,hR0⟩ (by simp only;omega)
       simp only[IK]at hgo
       first
        |(have hzz:=hg.2 y rfl
          have hg:=hg.1;rw[hzz]at hgo)
        |skip
       clear hR;refine tO (aN @l2 (aN @l3 (aN @e1 (aN @e2 (aN @q1 @q2))))) @hk @hg ?_;refine hgo _ ?_;refine lG ?_;all_goals exact⟨oO,fun c hc=>by rcases hc with hc|rfl|rfl<;>first|exact cI hc|rfl⟩
    ·have hjl:us.length=j+1:=oO;rw[iS oO]at hR0;simp only[nu]at hR0;subst hR0;have q3:=dU Fk ms;have q4:=dj Fk ms;rw[hlm]at q4;rw[hjl];clear hR;exact gU (aN @l2 (aN @hjl (aN @q1 (aN @q2 (aN @q3 (aN @q4 @eJ))))))
noncomputable def LC (s:cK) (vs:List Bytes) (sd:Bytes) (j:Nat):Except Int (List Int)->PV
 | .ok ms=> .tup [.sl (ms.map Zp), .sl ((uj s ms).map .s),T vs sd j,E 0]
 | .error e=> .tup [.sl [], .sl [],T [] [] 0,E e]
theorem BW {s:cK} (h:Bo s) (hv:[]∈s.vars):bK s.groups≠[]:=by
 have hk:=h.k;unfold BV at hk;rw[qI.2 ⟨[],hv,rfl⟩]at hk;simp only[cl,jx,ba,dW,ey]at hk;exact hk.1.1
theorem IM {s:cK} (hp:uV c sl s) (hv:vs.all aa=true) (hi:i<=2147483647) (hl:vs.length<1000000) (hsd:sd.length<1000000):
  aE 101 [.agg [.s c, .s sl],s.pv,T vs sd i] (LC s vs sd (i+s.vars.length) (nu (bK s.groups) c sl vs sd s.vars i [])):=by
 have hb:=yZ hp;have hd:=PB hp (BW hp.g) (vs:=vs) (sd:=sd) (i:=i) hv hi hl hsd
 cases hR:nu (bK s.groups) c sl vs sd s.vars i []with
 |error e=>
  have he:(e !=0)=true:=by rcases yk hR with rfl|rfl<;>rfl
  rw[hR]at hd;obtain⟨gs,us,es⟩:=s;simp only[Mt,LC,cK.pv]at hb hd⊢;refine eW call101 func101 ?_;exact zA @he @hb @hd
 |ok ms=>
  obtain⟨f1,f2,f3,f4⟩:=ym hp hv hi hl hR;have hm:=OD hp.g f1 f4 (Wx hp.g f1 fun x hx=>by
   obtain⟨j,hj,rfl⟩:=gR hx;have:=(BO (f2 j oO)).1;rw[ca,bZ hj]at this;exact iM (iM this (Ml hp.r (eF hp.g.g).2 (hp.g.v _ (aC [] oO)).2)) (Db oC oC))
  rw[hR]at hd;simp only[Mt,LC]at hd⊢;generalize uj s ms=L at*;obtain⟨gs,us,es⟩:=s;simp only[cK.pv]at hb hd hm⊢;refine eW call101 func101 ?_;exact z4 @hb @hd @hm oT
theorem Qd {a m:Nat} (hm:0<m):(-(a:Int))%m=if a%m=0 then 0 else((m-a%m:Nat):Int):=by
 have h1:=ik a m;have h2:=aP a hm;split
 ·rename_i h;refine((CZ (a:= -(a:Int)) (b:=m) (r:=0) (q:= -((a/m:Nat):Int)) oO).2 ⟨?_,oO,oO⟩).2;have:(a:Int)=m*(a/m:Nat):=by rw[<-Int.natCast_mul];omega
  rw[ni,<-this];omega
 ·rename_i h;refine((CZ (a:= -(a:Int)) (b:=m) (r:=((m-a%m:Nat):Int)) (q:= -((a/m:Nat):Int)-1) oO).2 ⟨?_,oO,oO⟩).2;have:(m:Int)*(a/m:Nat)+(a%m:Nat)=a:=by rw[<-Int.natCast_mul];omega
  rw[oM,ni,Int.mul_one];omega
theorem RL {m:Nat} (hx:x.natAbs<dC) (hm:m<dC) (h0:0<m):aE 343 [Z x,N m] (.tup [N (x%m).toNat,E 0]):=by
 have v1:=Cy hx;have v2:=aG (bR m);rw[vB hm]at v2;have hd:=OA hx hm h0;have hlt:=aP x.natAbs h0;have hs:=zV (a:=m) (b:=x.natAbs%m) oO hm;have hmb:(bR m==([]:Bytes))=false:=by
  rw[ey,ne_eq,gA];omega
 have hr:(x%m).toNat=if x<0/\x.natAbs%m≠0 then m-x.natAbs%m else x.natAbs%m:=by
  by_cases hn:x<0
  ·have e:x= -(x.natAbs:Int):=oO;have h:=Qd (a:=x.natAbs) h0;rw[<-e]at h;rw[h];split
   ·rename_i g;rw[af (by simp[g])];omega
   ·rename_i g;rw[ah ⟨hn,g⟩];omega
  ·rw[af (by simp[hn])]
   have e:x=(x.natAbs:Int):=oO
   conv=>lhs;rw[e]
   rw[<-Int.natCast_emod,Int.toNat_natCast]
 rw[hr];have hbb: ∀ _:True,(bR (x.natAbs%m)==([]:Bytes))=decide (x.natAbs%m=0):=fun _=>by
  rw[dk,fV,gA,bM]
 generalize x.natAbs%m=r at*;have hzs:zs x=decide (x<0):=rfl;clear hx hlt hr;unfold Z at v1⊢
 by_cases h1:x<0
 ·rw[aV h1]at hzs;rw[hzs]at v1⊢
  by_cases h2:r=0
  ·rw[aV h2]at hbb;rw[af (by simp[h2])]
   refine eW call343 func343 ?_;exact zB (aN @hmb (hbb oT)) @v1 @v2 @hd @hs
  ·rw[bL h2]at hbb;rw[ah ⟨h1,h2⟩];refine eW call343 func343 ?_;exact zB (aN @hmb (hbb oT)) @v1 @v2 @hd @hs
 ·rw[bL h1]at hzs;rw[hzs]at v1⊢;rw[af (by simp[h1])]
  refine eW call343 func343 ?_;exact zB @hmb @v1 @v2 @hd @hs
theorem wu (b:Bytes) (hx:x.natAbs<dC) (hL:L<dC):aE 212 [cO b,Zp x,N L] (.b (jc b x L)):=by
 have hk:=oK b;have hc:=DI hx hL;have hd: ∀ _:True,decide (aZ x.natAbs L<0)=decide (x.natAbs<L):=fun _=>by rw[dk];simp only[bM];exact fy
 generalize aZ x.natAbs L=cm at*;have hzs:zs x=decide (x<0):=rfl;rw[show N x.natAbs= .s (zb x)from rfl]at hc
 unfold jc;generalize decide (x.natAbs<L)=p at*;generalize decide (x<0)=q at*;simp only[Zp,cU,je]
 by_cases hb:b=[]
 ·rw[ah hb]at hk;rw[aV hb,cj];unfold cO at hk⊢;refine eW call212 func212 ?_;exact Rn (aN (hd oT) @hzs) @hc @hk
 ·rw[af hb]at hk;rw[bL hb,db];unfold cO at hk⊢;refine eW call212 func212 ?_;exact Rn (aN (hd oT) @hzs) @hc @hk
theorem Q4 {s:cK} (hs:Bo s) {w:List Int} (hwl:w.length=s.vars.length) (hw: ∀x∈w,x.natAbs<dC):aE 211 [s.pv, .sl (w.map Zp)] (.b (BQ (bK s.groups) s.vars w)):=by
 have hv:=hs.v;have nv:=hs.nv;have hor:=Bd s (by have:=hs.ng;omega)
 have hoV:=eF hs.g;obtain⟨gs,vs,es⟩:=s;simp only at hv hwl nv hor hoV⊢;have l2:(vs.map cO).length=vs.length:=aL ..;have l5:(w.map Zp).length=vs.length:=by rw[aL];exact hwl
 generalize bK gs=oq at*;unfold cK.pv at*;simp only at*;refine eW call211 func211 ?_;refine rU @l2 @hor ?_;refine ak (α:=Nat) (fun i=>vs.length-i) (fun i=>⟨[(1, .v (.sl (w.map Zp))),(2, .p 1000 0 0),(5, .v (.s oq)),(12, .v (.sl (vs.map cO))),(13,E' vs.length),(14,E' i)],[(1000,⟨0,[.v (.sl (gs.map dS)), .v (.sl (vs.map cO)), .v (.sl (es.map dr.pv))],false,none⟩)],_⟩) (fun i=>i<=vs.length/\ ∀j,j<i->jc (vs.getD j []) (w.getD j 0) (fG oq (vs.getD j []))=true) 0 (fun _=>aD _) ⟨aR _,fun j hj=>oO⟩ ?_ ?_
 ·exact lE
 ·rintro i ⟨hi,hall⟩ R hR
  by_cases hlt:i<vs.length
  ·have e1:=getD_map cO vs [] hlt;have e2:=getD_map Zp w 0 (i:=i) oO;have kb:=hv _ (aC [] hlt);have kw:=hw _ (aC 0 (show i<w.length by omega))
   have hgo:=fun h=>hR (i+1) ⟨oO,h⟩ oO
   have hbad:=fun h: ¬jc (vs.getD i []) (w.getD i 0) (fG oq (vs.getD i []))=true=>qa (p:=fun i=>jc (vs.getD i []) (w.getD i 0) (fG oq (vs.getD i []))) hlt (dy.2 h)
   have hnx:jc (vs.getD i []) (w.getD i 0) (fG oq (vs.getD i []))=true-> ∀j,j<i+1->jc (vs.getD j []) (w.getD j 0) (fG oq (vs.getD j []))=true:=fun h j hj=>by
    by_cases hji:j<i
    ·exact hall j hji
    ·obtain rfl:j=i:=oO;exact h
   rw[<-BQ]at hbad;clear hR hall;generalize vs.getD i []=b at*;generalize w.getD i 0=x at*;have hz:=(rA kw);simp only[je,cr,ba]at hz;clear hz;have hk:=oK b;have hlm:fG oq b<dC:=by unfold fG;split;exact HZ hoV.2;exact ov kb.1
   have hc:=wu b kw hlm;have hbl:(b=[]/\N (fG oq b)= .s oq)\/(b≠[]/\N (fG oq b)= .s b):=by
    by_cases h:b=[]
    ·exact .inl ⟨h,by rw[fG,ah h];exact dZ hoV.1⟩
    ·exact .inr ⟨h,by rw[fG,af h];exact dZ kb.1⟩
   clear kb kw hlm;generalize hp:jc b x (fG oq b)=p at*;simp only[cO]at e1 hk hc;simp only[Zp,cU,je]at e2 hc;rcases hbl with⟨hb,hL⟩|⟨hb,hL⟩
   all_goals
    first|rw[ah hb]at hk|rw[af hb]at hk
    rw[hL]at hc;cases p
    ·rw[hbad (by simp)]
     exact zA (aN @l2 (aN @l5 (aN @e1 @e2))) @hk @hc
    ·have hgo:=hgo (hnx rfl);exact zu (aN @l2 (aN @l5 (aN @e1 @e2))) @hgo @hk @hc
  ·obtain rfl:i=vs.length:=oO;have hg:BQ oq vs w=true:=pD fun j hj=>hall j hj
   rw[hg];exact z0
theorem yL {s:cK} (hp:uV c sl s):aE 238 [.agg [.s c, .s sl],s.pv] (.tup [.sl (s.vars.map fun b=>N (lM (bK s.groups) c sl b)), .sl (s.vars.map fun b=>N (lR (bK s.groups) c sl b)),E 0]):=by
 have hr:=hp.r;have hs:=hp.g;have hm:=hp.m;have hck:=J8 hs;have hoV:=eF hs.g;clear hp;have hor:=EL s (by have:=hs.ng;omega)
 have v1:=aI c;have v2:=aI sl;rw[hr.vc]at v1;rw[hr.vs]at v2;have lc:=hr.lc;have lsl:=hr.ls;have c1:=fZ (a:=c) (b:=[2]) (bG hr.vc) (.inr oC) oO oC;have c2:=fZ (a:=sl) (b:=[2]) (bG hr.vs) (.inr oC) oO oC;rw[show num ([2]:Bytes)=2 from rfl]at c1 c2
 have d1: ∀ _:True,decide (aZ (num c) 2<0)=false:=fun _=>bL (fun g=>by have:=fy.1 g;have:=hr.c2;omega)
 have d2: ∀ _:True,decide (aZ (num sl) 2<0)=false:=fun _=>bL (fun g=>by have:=fy.1 g;have:=hr.s2;omega)
 generalize aZ (num c) 2=cm1 at*;generalize aZ (num sl) 2=cm2 at*;have nv:=hs.nv;have hv:=hs.v;obtain⟨gs,vs,es⟩:=s;simp only at*;generalize bK gs=q at*;clear hs;have c3:=fZ (a:=c) (b:=q) (bG hr.vc) (bG hoV.1) oO oO;have d3: ∀b∈vs,b=[]->decide (aZ (num c) (num q)>0)=false:=fun b hb h=>bL fun g=>by
  have:=hm b hb h;unfold aZ at g
  split at g
  ·omega
  ·split at g<;>omega
 generalize aZ (num c) (num q)=cm3 at*;have l2:(vs.map cO).length=vs.length:=aL ..;unfold cK.pv at*;simp only at*;have hM:cT (fun b=>N (lM q c sl b)) 1:=⟨fun _=>rfl,fun _ y hy=>by cases fR.1 hy;rfl,fun _ _=>rfl,fun h=>aM rfl h⟩
 have hR0:cT (fun b=>N (lR q c sl b)) 1:=⟨fun _=>rfl,fun _ y hy=>by cases fR.1 hy;rfl,fun _ _=>rfl,fun h=>aM rfl h⟩
 have row1: ∀{i:Nat},i<vs.length->aX (fun b=>N (lM q c sl b)) (vs.take (i+1))=aX (fun b=>N (lM q c sl b)) (vs.take i)++[.v (N (lM q c sl (vs.getD i [])))]:=fun h=>by
  rw[aQ [] h,cu];rfl
 have Kf: ∀{i:Nat},i<vs.length->aX (fun b=>N (lR q c sl b)) (vs.take (i+1))=aX (fun b=>N (lR q c sl b)) (vs.take i)++[.v (N (lR q c sl (vs.getD i [])))]:=fun h=>by
  rw[aQ [] h,cu];rfl
 have rn1:aX (fun b=>N (lM q c sl b)) []=[]:=rfl
 have rn2:aX (fun b=>N (lR q c sl b)) []=[]:=rfl
 have t1:=qm sl c oO oO;have s1:=lL c [1] oO oC (by have:=hr.c2;show 1<=num c;omega)
 rw[show num ([1]:Bytes)=1 from rfl]at s1
 have llim: ∀{x:Nat},x<dC->(bR x).length<1048576:=fun h=>by have:=kZ.2 h;omega
 have h64:=m9;have hnc:=dO lc;have hns:=dO lsl;have hAl:num sl*num c<dC:=b9 (fE hns hnc) (by unfold dC;decide+kernel)
 have tt: ∀{b:Bytes},aa b=true->b≠[]->b.length<=16->aE 359 [N (num sl*num c), .s b] (N (pI c sl b))/\aE 230 [.s b, .s [1]] (N (num b-1))/\aE 359 [N (num c-1),N (num b-1)] (N ((num c-1)*(num b-1)))/\aE 44 [N (pI c sl b)] (.b true)/\aE 230 [N (pI c sl b),N ((num c-1)*(num b-1))] (N (Mp c sl b)):=by
  intro b vb hb lb;have hb0:=mR (bG vb) hb;have hb16:=Ei lb;have hw:=zY;have hML:=vZ hr lb;have hle:=Mq (b:=b) hr;have u1:=Ik (x:=num sl*num c) (y:=num b) (llim hAl) (llim oO);rw[dZ vb]at u1;have u2:=lL b [1] oO oC hb0;rw[show num ([1]:Bytes)=1 from rfl]at u2
  have u3:=Ik (x:=num c-1) (y:=num b-1) (llim oO) (llim oO);have u4:=aI (bR (pI c sl b));rw[vB hML]at u4;have u5:=Ie (x:=pI c sl b) (y:=(num c-1)*(num b-1)) (by have:=llim hML;omega) (by have:=llim (show(num c-1)*(num b-1)<dC by omega);omega) hle
  exact⟨u1,u2,u3,u4,u5⟩
 have tt2: ∀{b:Bytes},aa b=true->b≠[]->b.length<=16->aE 359 [N (num sl*num c), .s b] (N (lM q c sl b))/\aE 230 [.s b, .s [1]] (N (num b-1))/\aE 359 [N (num c-1),N (num b-1)] (N ((num c-1)*(num b-1)))/\aE 44 [N (lM q c sl b)] (.b true)/\aE 230 [N (lM q c sl b),N ((num c-1)*(num b-1))] (N (lR q c sl b)):=by
  intro b vb hb lb;have:=tt vb hb lb
  rwa[<-show lM q c sl b=pI c sl b by rw[lM,af hb],<-show lR q c sl b=Mp c sl b by rw[lR,af hb]]at this
 clear tt hAl llim;refine eW call238 func238 ?_;refine Rl (aN (d1 oT) (d2 oT)) @v1 @v2 @hck @c1 @c2 @hor oT ?_;refine ak (α:=Nat) (fun i=>vs.length-i) (fun i=>⟨[(2, .p 1000 0 0),(3, .p 1001 0 0),(8, .v (.s q)),(9,E' i)],[(1000,⟨0,[.v (.s c), .v (.s sl)],false,none⟩),(1001,⟨0,[.v (.sl (gs.map dS)), .v (.sl (vs.map cO)), .v (.sl (es.map dr.pv))],false,none⟩)],_⟩) (fun i=>i<=vs.length) 0 (fun _=>aD _) (aR _) ?_ ?_
 ·exact lE
 ·intro i hi R hR
  by_cases hlt:i<vs.length
  ·have e1:=getD_map cO vs [] hlt;have hgo:=hR (i+1) oO oO;have d3:=d3 _ (aC [] hlt);generalize vs.getD i []=x at*;clear hR;simp only[cO]at e1
   by_cases hb:x=[]
   ·have d3:=d3 hb;subst hb;exact kp (aN @l2 (aN @e1 (aN @nn @d3))) @hgo @c3
   ·have kb:(x==([]:Bytes))=false:=by simpa using hb
    exact ko (aN @l2 (aN @e1 @kb)) @hgo
  ·obtain rfl:i=vs.length:=oO;clear hR d3 c3
   by_cases hpos:0<vs.length
   rotate_left
   ·obtain rfl:vs=[]:=fg.1 oO;exact V0 @l2
   refine dY @l2 ?_;refine aj ?_;have e1:=getD_map cO vs [] hpos;have r1:=row1 hpos;have r2:=Kf hpos;have kk:=hv _ (aC [] hpos);have hcs:(vs.getD 0 []=[]/\N (lM q c sl (vs.getD 0 []))= .s q/\N (lR q c sl (vs.getD 0 []))= .s q)\/(vs.getD 0 []≠[]/\aE 359 [N (num sl*num c), .s (vs.getD 0 [])] (N (lM q c sl (vs.getD 0 [])))/\aE 230 [.s (vs.getD 0 []), .s [1]] (N (num (vs.getD 0 [])-1))/\aE 359 [N (num c-1),N (num (vs.getD 0 [])-1)] (N ((num c-1)*(num (vs.getD 0 [])-1)))/\aE 44 [N (lM q c sl (vs.getD 0 []))] (.b true)/\aE 230 [N (lM q c sl (vs.getD 0 [])),N ((num c-1)*(num (vs.getD 0 [])-1))] (N (lR q c sl (vs.getD 0 [])))):=by
    by_cases h:vs.getD 0 []=[]
    ·refine .inl ⟨h,?_,?_⟩
     ·rw[lM,ah h];exact dZ hoV.1
     ·rw[lR,ah h];exact dZ hoV.1
    ·exact .inr ⟨h,tt2 kk.1 h kk.2⟩
   clear kk;generalize lM q c sl (vs.getD 0 [])=A at*;generalize lR q c sl (vs.getD 0 [])=B at*;generalize vs.getD 0 []=b at*;simp only[cO]at e1;rcases hcs with⟨hb,hA,hB⟩|⟨hb,u1,u2,u3,u4,u5⟩
   rotate_left
   have kb:(b==([]:Bytes))=false:=by simpa using hb
   repeat' first|simp only[go_sem,seval,l2,e1,kb]|refine cP t1 ?_|refine cP u1 ?_|refine cP s1 ?_|refine cP u2 ?_|refine cP u3 ?_|refine cP u4 ?_|refine cP u5 ?_|refine oE ?_|apply xX<;>intro hc
   rotate_left
   rw[hA]at r1;rw[hB]at r2;have kb:(b==([]:Bytes))=true:=by simpa using hb
   repeat' first|simp only[go_sem,seval,l2,e1,kb]|refine oE ?_|apply xX<;>intro hc
   all_goals
    obtain⟨nm,hnm⟩: ∃nm,nm=(if b=[]then 1059 else 1077):=⟨_,rfl⟩
    obtain⟨nn',hnn⟩: ∃nn',nn'=(if b=[]then 1063 else 1083):=⟨_,rfl⟩
    obtain⟨nx',hnx⟩: ∃nx',nx'=(if b=[]then 1069 else 1089):=⟨_,rfl⟩
    first|rw[ah hb]at hnm hnn hnx|rw[af hb]at hnm hnn hnx
    refine ak (α:=Nat) (fun j=>vs.length-(j+1)) (fun j=>⟨[(2, .p 1000 0 0),(3, .p 1001 0 0),(8, .v (.s q)),(10, .rs nm j 0 (j+1) 1),(11, .rs nn' j 0 (j+1) 1),(12,E' (j+1))],[(1000,⟨0,[.v (.s c), .v (.s sl)],false,none⟩),(1001,⟨0,[.v (.sl (gs.map dS)), .v (.sl (vs.map cO)), .v (.sl (es.map dr.pv))],false,none⟩),(nm,⟨j,aX (fun b=>N (lM q c sl b)) (vs.take (j+1)),true,some 22⟩),(nn',⟨j,aX (fun b=>N (lR q c sl b)) (vs.take (j+1)),true,some 22⟩)],nx'⟩) (fun j=>j+1<=vs.length) 0 (fun _=>by show _<=nx';rw[hnx];exact dF rfl) hpos ?_ ?_<;>subst hnm hnn hnx
    ·rw[eK,r1,r2,List.take_zero,rn1,rn2];exact lE
    ·first|clear u1 u2 u3 u4 u5|clear hA hB
     clear e1 kb r1 r2 hb;intro j hj R hR;have hj1:(vs.take (j+1)).length=j+1:=by rw[cf];omega
     have q1:=cF hM (vs.take (j+1));have q2:=cR hM (vs.take (j+1));have q5:=cF hR0 (vs.take (j+1));have q6:=cR hR0 (vs.take (j+1));rw[hj1,dK]at q1 q2 q5 q6
     by_cases hlt:j+1<vs.length
     ·have hgo:=hR (j+1) oO oO;clear hR;have e1:=getD_map cO vs [] hlt;have r1:=row1 hlt;have r2:=Kf hlt;have kk:=hv _ (aC [] hlt);have hcs:(vs.getD (j+1) []=[]/\N (lM q c sl (vs.getD (j+1) []))= .s q/\N (lR q c sl (vs.getD (j+1) []))= .s q)\/(vs.getD (j+1) []≠[]/\aE 359 [N (num sl*num c), .s (vs.getD (j+1) [])] (N (lM q c sl (vs.getD (j+1) [])))/\aE 230 [.s (vs.getD (j+1) []), .s [1]] (N (num (vs.getD (j+1) [])-1))/\aE 359 [N (num c-1),N (num (vs.getD (j+1) [])-1)] (N ((num c-1)*(num (vs.getD (j+1) [])-1)))/\aE 44 [N (lM q c sl (vs.getD (j+1) []))] (.b true)/\aE 230 [N (lM q c sl (vs.getD (j+1) [])),N ((num c-1)*(num (vs.getD (j+1) [])-1))] (N (lR q c sl (vs.getD (j+1) [])))):=by
       by_cases h:vs.getD (j+1) []=[]
       ·refine .inl ⟨h,?_,?_⟩
        ·rw[lM,ah h];exact dZ hoV.1
        ·rw[lR,ah h];exact dZ hoV.1
       ·exact .inr ⟨h,tt2 kk.1 h kk.2⟩
      clear kk;generalize lM q c sl (vs.getD (j+1) [])=A at*;generalize lR q c sl (vs.getD (j+1) [])=B at*;generalize vs.getD (j+1) []=b at*;simp only[cO]at e1;rcases hcs with⟨hb,hA,hB⟩|⟨hb,u1,u2,u3,u4,u5⟩
      ·rw[hA]at r1;rw[hB]at r2;rw[r1,r2]at hgo;have kb:(b==([]:Bytes))=true:=by simpa using hb
       refine eC (aN @l2 (aN @e1 (aN @kb (aN @q1 (aN @q2 (aN @q5 @q6)))))) ?_;refine hgo _ ?_
       (refine AS.Le.of (by first|decide|omega) ?_ ?_<;>simp[dA,dz,aS,aB,AV.bd,AV.bd.bdL,u8,aq,au,aA])
       all_goals (refine⟨?_,?_⟩<;>(intro c hc;rcases hc with h|h<;>first|exact cI h|(subst h;rfl)))
      ·rw[r1,r2]at hgo;have kb:(b==([]:Bytes))=false:=by simpa using hb
       refine YK (aN @l2 (aN @e1 (aN @kb (aN @q1 (aN @q2 (aN @q5 @q6)))))) @t1 @u1 @s1 @u2 @u3 @u4 @u5 ?_;refine hgo _ ?_
       (refine AS.Le.of (by first|decide|omega) ?_ ?_<;>simp[dA,dz,aS,aB,AV.bd,AV.bd.bdL,u8,aq,au,aA])
       all_goals (refine⟨?_,?_⟩<;>(intro c hc;rcases hc with h|h<;>first|exact cI h|(subst h;rfl)))
     ·obtain hjv:j+1=vs.length:=oO;rw[hjv,cg]at q1 q2 q5 q6;rw[hjv,cg];have q3:=dU hM vs;have q4:chunk 1 vs.length (List.flatMap (fun x=>[PV.s (bR (lM q c sl x))]) vs)=vs.map fun b=>N (lM q c sl b):=dj hM vs
      have q7:=dU hR0 vs;have q8:chunk 1 vs.length (List.flatMap (fun x=>[PV.s (bR (lR q c sl x))]) vs)=vs.map fun b=>N (lR q c sl b):=dj hR0 vs
      exact gU (aN @l2 (aN @q1 (aN @q2 (aN @q3 (aN @q4 (aN @q5 (aN @q6 (aN @q7 (aN @q8 @eJ)))))))))
