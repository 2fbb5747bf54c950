/- Part of the proof. -/
import Derived.Test.YthlapgdhjcddkaaGreatDoorUF28
import Derived.Test.YthlapgdhjcddkaaGreatDoorUF29
import Derived.Test.YthlapgdhjcddkaaGreatDoorUF30
set_option linter.all false
set_option maxHeartbeats 16000000
set_option maxRecDepth 100000
namespace Go.Proofs.Tryz
open Go Go.Dom
theorem dO:cH ca 2:=⟨fun _=>rfl,fun x y hy=>by obtain⟨n,a⟩:=x;simp[ca,PV.cells]at hy;rcases hy with rfl|rfl<;>rfl,fun h=>oO,fun _ x=>rfl⟩
theorem C9:aH 92 [.sl []] (.sl []):=by
 refine eW call92 func92 ?_;exact z0
theorem vY {l:List (Bool×Bytes)} (h0:l≠[]) (hl:l.length<1000000):aH 95 [.sl (l.map ca)] (.sl (l.map ca)):=by
 obtain⟨x,r,rfl⟩: ∃x r,l=x::r:=by cases l with
  |nil=>exact aJ rfl h0
  |cons a b=>exact⟨a,b,rfl⟩
 rw[b8];have k1:(ca x::r.map ca)=(x::r).map ca:=rfl;have k0:(r.map ca).length=r.length:=au ..;refine eW call95 func95 ?_;refine dw @k0 ?_;have hrow:List.map AV.v ((ca x).cells++List.flatMap PV.cells (List.map ca r))=aP ca (x::r):=by
  rw[aP,ft,jO]
 have hL:((ca x).cells++List.flatMap PV.cells (List.map ca r)).length=(r.length+1)*2:=by
  have:=bT dO (x::r);rw[<-hrow,au]at this;exact this
 have q1:List.take ((r.length+1)*2) (aP ca (x::r))=aP ca (x::r):=cf dO (x::r);have q2:=dI dO (x::r);have q3:chunk 2 (r.length+1) ((x::r).flatMap fun x=>(ca x).cells)=(x::r).map ca:=cK dO (x::r)
 have q4: ∀y∈aP ca (x::r),y.one=true:=fun y hy=>bz.1 q2 y hy
 rw[hrow];refine⟨⟨⟨dO.len x,fun y hy=>by obtain⟨z,-,rfl⟩:=cx.1 hy;exact dO.len z⟩,q4,by simp at hl;omega,by simp at hl;omega⟩,?_⟩
 simp only[hL,q1,q2,q3,dj,aA,and_self,aC,Option.map_some];exact⟨trivial,rfl⟩
def X0 (c sl:Bytes) (s:aT):PV:= .agg [.s c, .s sl, .sl (s.groups.map cz), .sl (s.vars.map bO), .sl (s.eqs.map bZ.pv), .sl [], .sl [], .s []]
def iT (c:Bytes) (nv:Nat) (ch:Bytes) (rs:List (Bool×Bytes)) (gs:List Bytes) (ls:List (List (Bool×Bytes))):Int:=
 if !(ae ch&&rs.all cr&&ls.all (fun l=>l.all cr)&&gs.all ae)then 3 else if rs.length≠nv\/gs≠[]\/ls≠[]then 6 else if num c<=num ch then 2 else 0
def kC (ch:Bytes) (rs:List (Bool×Bytes)) (gs:List Bytes) (ls:List (List (Bool×Bytes))):PV:= .agg [.s ch, .sl (rs.map ca), .sl (gs.map .s), .sl (ls.map fj)]
theorem yp {c sl:Bytes} (vc:ae c=true) (s:aT) (ch:Bytes) (rs:List (Bool×Bytes)) (gs:List Bytes) (ls:List (List (Bool×Bytes))) (h1:rs.length<1000000) (h2:gs.length<=1000) (h3:ls.length<=1000) (h4: ∀l∈ls,l.length<4611686018427387904):aH 90 [X0 c sl s,kC ch rs gs ls] (E (iT c s.vars.length ch rs gs ls)):=by
 have v1:=aX ch;have v2:=uA rs oO;have v3:=kV ls 178 [Wt] (fun l=> !l.all cr) oO fun l hl=>uA l (h4 l hl)
 rw[im]at v3;have v4:=gI gs _ _ oO FG;rw[im]at v4;have v5:=abL 180 [.pt (X0 c sl s) 0];obtain⟨gq,vs,es⟩:=s;unfold fj at v2;simp only[X0,kC,iT]at v5⊢;have l1:(rs.map ca).length=rs.length:=au ..;have l2:(vs.map bO).length=vs.length:=au ..;have l3:(gs.map PV.s).length=gs.length:=au ..;have l4:(ls.map fj).length=ls.length:=au ..
 by_cases hok:(ae ch&&rs.all cr&&ls.all (fun l=>l.all cr)&&gs.all ae)=true
 ·rw[hok];simp only[bc]at hok;obtain⟨⟨⟨o1,o2⟩,o3⟩,o4⟩:=hok;rw[o1]at v1;rw[o2]at v2;rw[o3]at v3;rw[o4]at v4
  by_cases hm:rs.length≠vs.length\/gs≠[]\/ls≠[]
  ·simp only[dy,cE,aB,af hm];have hm':rs.length≠vs.length\/(rs.length=vs.length/\gs.length≠0)\/(rs.length=vs.length/\gs.length=0/\ls.length≠0):=by
    rcases hm with h|h|h
    ·exact .inl h
    ·have:gs.length≠0:=fun h0=>h (dt.1 h0)
     omega
    ·have:ls.length≠0:=fun h0=>h (dt.1 h0)
     omega
   clear hm v5 o2 o3 o4 h4;rcases hm' with h|⟨h,h'⟩|⟨h,h',h''⟩
   all_goals (
   refine eW call90 func90 ?_;repeat' first|simp only[go_sem,seval,aW,l1,l2,l3,l4]|refine cP v1 ?_|refine cV v2 ?_|refine cV v3 ?_|refine cP v4 ?_|refine oE ?_|apply xX<;>intro hc
   try trivial)
   all_goals fail "a"
  ·simp only[dy,cE,aB,aa hm];have hm':rs.length=vs.length/\gs=[]/\ls=[]:=by
    refine⟨vH fun h=>hm (.inl h),vH fun h=>hm (.inr (.inl h)),vH fun h=>hm (.inr (.inr h))⟩
   obtain⟨e1,e2,e3⟩:=hm';subst e2;subst e3;have cm:=nA o1 vc;simp only[cb]at v3 v4;clear hm h4
   by_cases hge:num c<=num ch
   ·rw[af hge];have h7: ∀ _:True,(0:Int)<=a7 (num ch) (num c):=fun _=>dY.2 hge
    have h5: ∀ _:True,decide (a7 (num ch) (num c)>=0)=true:=fun _=>aQ (h7 oT)
    generalize a7 (num ch) (num c)=z at*;refine eW call90 func90 ?_;repeat' first|simp only[go_sem,seval,aW,l1,l2,h5 oT]|refine cP v1 ?_|refine cV v2 ?_|refine cV v3 ?_|refine cP v4 ?_|refine cP cm ?_|(refine aq ?_)|refine oE ?_|apply xX<;>intro hc
   ·rw[aa hge];have h7: ∀ _:True,¬(0:Int)<=a7 (num ch) (num c):=fun _ h=>hge (dY.1 h)
    have h5: ∀ _:True,decide (a7 (num ch) (num c)>=0)=false:=fun _=>aS (h7 oT)
    generalize a7 (num ch) (num c)=z at*;refine eW call90 func90 ?_;repeat' first|simp only[go_sem,seval,aW,l1,l2,h5 oT]|refine cP v1 ?_|refine cV v2 ?_|refine cV v3 ?_|refine cP v4 ?_|refine cP cm ?_|refine cV v5 ?_|(refine aq ?_)|refine oE ?_|apply xX<;>intro hc
 ·have hf:(ae ch&&rs.all cr&&ls.all (fun l=>l.all cr)&&gs.all ae)=false:=by simpa using hok
  rw[hf];simp only[dW,aC];clear hok v5 h4;generalize ae ch=b1 at*;generalize rs.all cr=b2 at*;generalize (ls.all fun l=>l.all cr)=b3 at*
  generalize gs.all ae=b4 at*;cases b1
  ·refine eW call90 func90 ?_;repeat' first|simp only[go_sem,seval,aW,l1,l2,l3,l4]|refine cP v1 ?_|refine cV v2 ?_|refine cV v3 ?_|refine cP v4 ?_|refine oE ?_|apply xX<;>intro hc
  ·cases b2
   ·refine eW call90 func90 ?_;repeat' first|simp only[go_sem,seval,aW,l1,l2,l3,l4]|refine cP v1 ?_|refine cV v2 ?_|refine cV v3 ?_|refine cP v4 ?_|refine oE ?_|apply xX<;>intro hc
   ·cases b3
    ·refine eW call90 func90 ?_;repeat' first|simp only[go_sem,seval,aW,l1,l2,l3,l4]|refine cP v1 ?_|refine cV v2 ?_|refine cV v3 ?_|refine cP v4 ?_|refine oE ?_|apply xX<;>intro hc
    ·cases b4
     ·refine eW call90 func90 ?_;repeat' first|simp only[go_sem,seval,aW,l1,l2,l3,l4]|refine cP v1 ?_|refine cV v2 ?_|refine cV v3 ?_|refine cP v4 ?_|refine oE ?_|apply xX<;>intro hc
     ·exact aJ hf (by simp)
abbrev Ke:PV:= .agg [.sl [], .s [], .sl []]
abbrev B0:PV:= .agg [.sl [], .sl []]
abbrev sK:Bytes:=[100,111,109,105,110,111,32,112,114,111,111,102]
abbrev uY:Bytes:=[99,111,110,116,101,120,116]
abbrev GD:Bytes:=[102,111,114,109,117,108,97]
abbrev GF:Bytes:=[102,105,114,115,116]
def L3 (ctx:Bytes) (s:aT) (fs:List Bytes):Bytes:=cY (cZ (gn (cZ (mG sK) uY ctx) s) GD []) GF fs
noncomputable def ep (s:aT) (ch:Bytes) (rs:List (Bool×Bytes)):List Bytes:=s.eqs.map fun q=>b7 (fo s.groups ch rs q)
end Go.Proofs.Tryz
namespace Go.Proofs.Tryz
open Go Go.Dom Go.Num
variable {c sl st:Bytes}
theorem ZpI (l:List Int):(l.map iB).map ca=l.map Zp:=by rw[iK];rfl
theorem yC {w:List Int} (hw: ∀x∈w,x.natAbs<ek):(w.map iB).all cr=true:=by
 rw[bz];intro x hx;obtain⟨z,hz,rfl⟩:=cx.1 hx;exact tC (hw z hz)
theorem S7 {s:aT} (hs:xq s) {w:List (Bool×Bytes)} (hw:w.length<1000000):aH 193 [s.pv, .sl (w.map ca)] (E (if !(w.all cr)then 3 else if w.length≠s.vars.length then 6 else 0)):=by
 have hf:=OF hs.b;have hc:=yu hs.b;rw[hs.ck]at hc;rw[show jD s=true from by have:=hs.ck;unfold mP at this;cases h:jD s<;>simp_all]at hf
 have hcf:=fL w _ _ oO S6;rw[im]at hcf;have l1:(w.map ca).length=w.length:=au ..;obtain⟨gs,vs,es⟩:=s;have l2:(vs.map bO).length=vs.length:=au ..;simp only[aT.pv,aC]at hf hc⊢;generalize w.all cr=b at*;cases b
 ·refine eW call193 func193 ?_;exact ry (aN @l1 @l2) @hf @hc @hcf oT
 ·by_cases hl:w.length=vs.length
  ·have hI:((w.length:Int) !=vs.length)=false:=by rw[hl];simp
   rw[aa (by simp),aa (by simpa using hl)]
   refine eW call193 func193 ?_;exact ry (aN @l1 (aN @l2 @hI)) @hf @hc @hcf oT
  ·have hI:((w.length:Int) !=vs.length)=true:=by rw[bne_iff_ne];omega
   rw[aa (by simp),af (by simpa using hl)]
   refine eW call193 func193 ?_;exact ry (aN @l1 (aN @l2 @hI)) @hf @hc @hcf oT
theorem Jz {s:aT} (hs:xq s) {w:List Int} (hwl:w.length=s.vars.length) (hw: ∀x∈w,x.natAbs<ek):aH 193 [s.pv, .sl (w.map Zp)] (E 0):=by
 have nv:=hs.nv;have:=S7 hs (w:=w.map iB) (by rw[au];omega)
 rwa[ZpI,yC hw,au,aa (by simp),aa (by simpa using hwl)]at this
def WS (s:aT) (w:List Int):Prop:= ∀q∈s.eqs,WB q.terms w
theorem IP {s:aT} (hs:xq s) {w:List Int} (hwl:w.length=s.vars.length) (hw: ∀x∈w,x.natAbs<ek) (hW:WS s w):aH 134 [s.pv, .sl (w.map Zp)] (.tup [.sl ((wE s w).map .s),E 0]):=by
 have hr:=Jz hs hwl hw;have hi:=Jn hs hW;generalize wE s w=L at*;obtain⟨gs,vs,es⟩:=s;simp only[aT.pv]at hr hi⊢;refine eW call134 func134 ?_;exact z2 @hr @hi
def gJ (o b:Bytes):Nat:=if b=[]then num o else num b
def jJ (b:Bytes) (x:Int) (L:Nat):Bool:=decide (x.natAbs<L)&& !(decide (b=[])&&decide (x<0))
def DC (o:Bytes) (us:List Bytes) (w:List Int):Bool:=(List.range us.length).all fun i=>jJ (us.getD i []) (w.getD i 0) (gJ o (us.getD i []))
theorem dZ {gs:List (Bytes×Bytes)} (h: ∀p∈gs,gE p.1 p.2=0/\p.1.length<=8/\p.2.length<=8):ae (ba gs)=true/\(ba gs).length<=8:=by
 induction gs with
 |nil=>exact⟨rfl,by simp[ba]⟩
 |cons g r ih=>
  rw[ba];obtain⟨g1,g2,g3⟩:=h g (mS ..);split
  ·exact ih fun p hp=>h p (ju _ hp)
  ·exact⟨(nD g1).2.1,g3⟩
theorem KU {s:aT} (hs:xq s) {w:List Int} (hwl:w.length=s.vars.length) (hw: ∀x∈w,x.natAbs<ek):aH 194 [s.pv, .sl (w.map Zp)] (.b (DC (ba s.groups) s.vars w)):=by
 have hv:=hs.v;have nv:=hs.nv;have hor:=Cy s (by have:=hs.ng;omega)
 have hoV:=dZ hs.g;obtain⟨gs,vs,es⟩:=s;simp only at hv hwl nv hor hoV⊢;have l2:(vs.map bO).length=vs.length:=au ..;have l5:(w.map Zp).length=vs.length:=by rw[au];exact hwl
 generalize ba gs=oq at*;unfold aT.pv at*;simp only at*;refine eW call194 func194 ?_;refine dh @l2 ?_;refine ah (α:=Nat) (fun i=>vs.length-i) (fun i=>⟨[(1, .v (.sl (w.map Zp))),(2, .p 1000 0 0),(9, .v (.sl (vs.map bO))),(10,E' vs.length),(11,E' i)],[(1000,⟨0,[.v (.sl (gs.map cz)), .v (.sl (vs.map bO)), .v (.sl (es.map bZ.pv))],false,none⟩)],_⟩) (fun i=>i<=vs.length/\ ∀j,j<i->jJ (vs.getD j []) (w.getD j 0) (gJ oq (vs.getD j []))=true) 0 (fun _=>aA _) ⟨aD _,fun j hj=>oO⟩ ?_ ?_
 ·exact lE
 ·rintro i ⟨hi,hall⟩ R hR
  by_cases hlt:i<vs.length
  ·have e1:=getD_map bO vs [] hlt;have e2:=getD_map Zp w 0 (i:=i) oO;have kb:=hv _ (ai [] hlt);have kw:=hw _ (ai 0 (show i<w.length by omega))
   have hgo:=fun h=>hR (i+1) ⟨oO,h⟩ oO
   have hbad:=fun h: ¬jJ (vs.getD i []) (w.getD i 0) (gJ oq (vs.getD i []))=true=>n8 (p:=fun i=>jJ (vs.getD i []) (w.getD i 0) (gJ oq (vs.getD i []))) hlt (dR.2 h)
   have hnx:jJ (vs.getD i []) (w.getD i 0) (gJ oq (vs.getD i []))=true-> ∀j,j<i+1->jJ (vs.getD j []) (w.getD j 0) (gJ oq (vs.getD j []))=true:=fun h j hj=>by
    by_cases hji:j<i
    ·exact hall j hji
    ·obtain rfl:j=i:=oO;exact h
   rw[<-DC]at hbad;clear hR hall;generalize vs.getD i []=b at*;generalize w.getD i 0=x at*;have hz:=(tC kw);simp only[iB,cr,bc]at hz;have hc:=nA hz.1 kb.1;have hc':=nA hz.1 hoV.1;simp only[wO]at hc hc';have hd: ∀L:Nat,decide (a7 x.natAbs L>=0)= !decide (x.natAbs<L):=fun L=>WQ _ _
   simp only[bO]at e1;simp only[Zp,ca,iB]at e2;simp only[jJ,gJ]at hbad hnx
   by_cases hb:b=[]
   ·subst hb;simp only[aC,decide_true,bE]at hbad hnx;have hzs:zs x=decide (x<0):=rfl;have h1:=hd (num oq);clear hd hc kb;generalize a7 x.natAbs (num oq)=cm at*;generalize decide (x.natAbs<num oq)=p at*;generalize hq:decide (x<0)=q at*;cases q
    ·cases p
     ·rw[hbad (by simp)]
      exact vV (aN @l2 (aN @l5 (aN @e1 (aN @e2 (aN @hzs (aN @h1 @nn)))))) @hor @hc'
     ·have hgo:=hgo (hnx (by simp))
      exact yd (aN @l2 (aN @l5 (aN @e1 (aN @e2 (aN @hzs (aN @h1 @nn)))))) @hgo @hor @hc'
    ·rw[hbad (by simp)]
     exact vV (aN @l2 (aN @l5 (aN @e1 (aN @e2 (aN @hzs (aN @h1 @nn)))))) @hor @hc'
   ·have hbb:(b==[])=false:=by simpa using hb
    simp only[aa hb,aS hb,br,dW,me]at hbad hnx;have h1:=hd (num b);clear hd hc' kb;generalize a7 x.natAbs (num b)=cm at*;generalize decide (x.natAbs<num b)=p at*;cases p
    ·rw[hbad (by simp)]
     exact iE (aN @l2 (aN @l5 (aN @e1 (aN @e2 (aN @hbb @h1))))) @hc
    ·have hgo:=hgo (hnx rfl);exact gi (aN @l2 (aN @l5 (aN @e1 (aN @e2 (aN @hbb @h1))))) @hgo @hc
  ·obtain rfl:i=vs.length:=oO;have hg:DC oq vs w=true:=nu fun j hj=>hall j hj
   rw[hg];exact z0
noncomputable def FT (s:aT) (w:List Int):Bool:=decide (wE s w=s.eqs.map (·.tgt))
theorem Cv {s:aT} (hs:xq s) {w:List Int} (hwl:w.length=s.vars.length) (hw: ∀x∈w,x.natAbs<ek) (hW:DC (ba s.groups) s.vars w=true->WS s w):aH 106 [s.pv, .sl (w.map Zp)] (.tup [.b (DC (ba s.groups) s.vars w&&FT s w),E 0]):=by
 have ne:=hs.ne;have hr:=Jz hs hwl hw;have hi:=KU hs hwl hw;have hm:=fun h=>Jn hs (hW h)
 have hL:=yr s w;unfold FT;generalize wE s w=L at*;obtain⟨gs,vs,es⟩:=s;simp only[aT.pv]at hr hi hm hL⊢;have l3:(es.map bZ.pv).length=es.length:=au ..;have l4:(L.map PV.s).length=es.length:=by rw[au];exact hL
 simp only at ne;clear hs hW hw hwl;generalize DC (ba gs) vs w=b at*;cases b
 ·refine eW call106 func106 ?_;exact z2 @hr @hi
 have hm:=hm rfl;refine eW call106 func106 ?_;refine mK @l3 @hr @hi @hm oT ?_;refine ah (α:=Nat) (fun i=>es.length-i) (fun i=>⟨[(2, .p 1000 0 0),(7, .v (.sl (L.map .s))),(31, .v (.sl (es.map bZ.pv))),(32,E' es.length),(33,E' i)],[(1000,⟨0,[.v (.sl (gs.map cz)), .v (.sl (vs.map bO)), .v (.sl (es.map bZ.pv))],false,none⟩)],_⟩) (fun i=>i<=es.length/\ ∀j,j<i->L.getD j []=(es.getD j dU).tgt) 0 (fun _=>aA _) ⟨aD _,fun j hj=>oO⟩ ?_ ?_
 ·exact lE
 ·rintro i ⟨hi,hall⟩ R hR
  by_cases hlt:i<es.length
  ·have e1:=getD_map bZ.pv es dU hlt;have e2:=getD_map PV.s L [] (i:=i) oO;have hgo:=fun h=>hR (i+1) ⟨oO,h⟩ oO
   have hnx:L.getD i []=(es.getD i dU).tgt-> ∀j,j<i+1->L.getD j []=(es.getD j dU).tgt:=fun h j hj=>by
    by_cases hji:j<i
    ·exact hall j hji
    ·obtain rfl:j=i:=oO;exact h
   have hbad: ¬L.getD i []=(es.getD i dU).tgt->decide (L=es.map (·.tgt))=false:=fun h=>aS fun g=>h (by rw[g];simp[bu,hlt])
   clear hR hall;generalize es.getD i dU=q at*;generalize L.getD i []=x at*;obtain⟨g,t,ts⟩:=q;simp only[bZ.pv]at e1 hbad hnx
   by_cases hxt:x=t
   ·have hgo:=hgo (hnx hxt);have e3:(x==t)=true:=by simpa using hxt
    exact gH (aN @l3 (aN @l4 (aN @e1 (aN @e2 @e3)))) @hgo
   ·have e3:(x==t)=false:=by simpa using hxt
    rw[hbad hxt];exact fz (aN @l3 (aN @l4 (aN @e1 (aN @e2 @e3))))
  ·obtain rfl:i=es.length:=oO;rw[aQ (Ss hL hall)];exact z0
def lM (o c sl b:Bytes):Nat:=if b=[]then num o else qV c sl b
def lR (o c sl b:Bytes):Nat:=if b=[]then num o else OI c sl b
def lP (o c sl b:Bytes):PV:= .agg [N (lM o c sl b),N (lR o c sl b)]
structure xQ (c sl:Bytes) (s:aT):Prop where
 r:we c sl
 g:xq s
 m: ∀b∈s.vars,b=[]->num c<=num (ba s.groups)
theorem pc (b:Bytes):aH 219 [bO b] (E (if b=[]then 0 else 1)):=by
 by_cases h:b=[]
 ·subst h;unfold bO;refine eW call219 func219 ?_;exact fz @nn
 ·rw[aa h];exact Qk h
theorem GN (c sl q b:Bytes):aH 220 [.agg [.s c, .s sl, .s q], .s b] (.tup [.agg [.s q, .s q],E 0]):=by
 refine eW call220 func220 ?_;exact z0
theorem acx (o c sl:Bytes):cH (lP o c sl) 2:=⟨fun _=>rfl,fun x y hy=>by simp[lP,PV.cells]at hy;rcases hy with rfl|rfl<;>rfl,fun h=>oO,fun _ x=>rfl⟩
theorem u6 {s:aT} (h:xQ c sl s):aH 132 [.agg [.s c, .s sl],s.pv] (.tup [.sl (s.vars.map (lP (ba s.groups) c sl)),E 0]):=by
 obtain⟨hr,hs,hm⟩:=h;have hck:=yu hs.b;rw[hs.ck]at hck;have hor:=xb s (by have:=hs.ng;omega)
 have hoV:=dZ hs.g;have v1:=aX c;have v2:=aX sl;rw[hr.vc]at v1;rw[hr.vs]at v2;have c1:=Dj hr.vc;have c2:=Dj hr.vs;have d1: ∀ _:True,decide (a7 (num c) 2<0)=false:=fun _=>aS (fun g=>by have:=fZ.1 g;have:=hr.c2;omega)
 have d2: ∀ _:True,decide (a7 (num sl) 2<0)=false:=fun _=>aS (fun g=>by have:=fZ.1 g;have:=hr.s2;omega)
 have c3:=nA hr.vc hoV.1;generalize a7 (num c) 2=cm1 at*;generalize a7 (num sl) 2=cm2 at*;have hv:=hs.v;have nv:=hs.nv;obtain⟨gs,vs,es⟩:=s;simp only at hv hm nv hor hoV c3⊢;generalize ba gs=q at*;have d3: ∀b∈vs,b=[]->decide (a7 (num c) (num q)>0)=false:=fun b hb h=>aS fun g=>by
  have:=hm b hb h;unfold a7 at g
  split at g
  ·omega
  ·split at g<;>omega
 generalize a7 (num c) (num q)=cm3 at*;have eq:=fA hoV.1;have l2:(vs.map bO).length=vs.length:=au ..;clear hm hoV;unfold aT.pv at*;simp only at*;refine eW call132 func132 ?_;refine Hb (aN (d1 oT) (aN (d2 oT) @l2)) @v1 @v2 @hck @VM @c1 @c2 @hor ?_;refine ah (α:=Nat) (fun i=>vs.length-i) (fun i=>⟨[(2, .p 1000 0 0),(3, .p 1001 0 0),(8, .p 1037 0 0),(50, .v (.sl (vs.map bO))),(51,E' vs.length),(52,E' i)],[(1000,⟨0,[.v (.s c), .v (.s sl)],false,none⟩),(1001,⟨0,[.v (.sl (gs.map cz)), .v (.sl (vs.map bO)), .v (.sl (es.map bZ.pv))],false,none⟩),(1037,⟨0,[.v (.s c), .v (.s sl), .v (.s q)],false,some 270⟩)],_⟩) (fun i=>i<=vs.length) 0 (fun _=>aA _) (aD _) ?_ ?_
 ·exact lE
 ·intro i hi R hR
  by_cases hlt:i<vs.length
  ·have e1:=getD_map bO vs [] hlt;have hk:=pc (vs.getD i []);have d3:=d3 _ (ai [] hlt);have hgo:=hR (i+1) oO oO;clear hR;generalize vs.getD i []=b at*;simp only[bO]at e1 hk
   by_cases hb:b=[]
   ·rw[af hb]at hk;have d3:=d3 hb;exact yd (aN @l2 (aN @e1 @d3)) @hgo @hk @c3
   ·rw[aa hb]at hk;exact gi (aN @l2 @e1) @hgo @hk
  ·obtain rfl:i=vs.length:=oO;have hL:=acx q c sl;have row0: ∀{i:Nat},i<vs.length->aP (lP q c sl) (vs.take (i+1))=aP (lP q c sl) (vs.take i)++[.v (N (lM q c sl (vs.getD i []))), .v (N (lR q c sl (vs.getD i [])))]:=fun h=>by
    rw[aL [] h,bU];rfl
   clear hR d3 c1 c2 c3 d1 d2 hlt
   by_cases hpos:0<vs.length
   ·refine dh @l2 ?_;refine aq ?_;have e1:=getD_map bO vs [] hpos;have hk:=pc (vs.getD 0 []);have r1:=row0 hpos;have hcs:(vs.getD 0 []=[]/\aH 220 [.agg [.s c, .s sl, .s q], .s (vs.getD 0 [])] (.tup [.agg [N (lM q c sl (vs.getD 0 [])),N (lR q c sl (vs.getD 0 []))],E 0]))\/(vs.getD 0 []≠[]/\aH 221 [.agg [.s c, .s sl, .s q], .s (vs.getD 0 [])] (.tup [.agg [N (lM q c sl (vs.getD 0 [])),N (lR q c sl (vs.getD 0 []))],E 0])):=by
     by_cases h:vs.getD 0 []=[]
     ·refine .inl ⟨h,?_⟩;rw[h,lM,lR,af rfl,af rfl,eq];exact GN c sl q []
     ·obtain⟨k1,k3⟩:=hv _ (ai [] hpos);refine .inr ⟨h,?_⟩;rw[lM,lR,aa h,aa h];exact u9 (q:=q) hr k1 h k3
    generalize lM q c sl (vs.getD 0 [])=A at*;generalize lR q c sl (vs.getD 0 [])=B at*;generalize vs.getD 0 []=b at*;simp only[bO]at e1 hk;rcases hcs with⟨hb,hi1⟩|⟨hb,hi1⟩
    all_goals
     first|rw[af hb]at hk|rw[aa hb]at hk
     refine Bw (aN @l2 @e1) @hk @hi1 ?_;refine ah (α:=Nat) (fun j=>vs.length-(j+1)) (fun j=>⟨[(11, .p 1049 0 0),(12, .rs 1079 j 0 (j+1) 2),(74, .v (.sl (vs.map bO))),(75,E' vs.length),(76,E' (j+1))],[(1049,⟨0,[.fn (.func 220) [.v (.agg [.s c, .s sl, .s q])] [], .fn (.func 221) [.v (.agg [.s c, .s sl, .s q])] []],false,some 273⟩),(1079,⟨j,aP (lP q c sl) (vs.take (j+1)),true,some 208⟩)],1083⟩) (fun j=>j+1<=vs.length) 0 (fun _=>cd rfl) hpos ?_ ?_
     ·rw[eX,r1,List.take_zero,show aP (lP q c sl) []=[]from rfl]
      exact lE
     ·clear e1 hk hi1 r1 hb;intro j hj R hR;have hj1:(vs.take (j+1)).length=j+1:=by rw[bQ];omega
      have q1:=bT hL (vs.take (j+1));have q2:=cf hL (vs.take (j+1));rw[hj1]at q1 q2
      by_cases hlt:j+1<vs.length
      ·have hgo:=hR (j+1) oO oO;clear hR;have e1:=getD_map bO vs [] hlt;have hk:=pc (vs.getD (j+1) []);have r1:=row0 hlt;have hcs:(vs.getD (j+1) []=[]/\aH 220 [.agg [.s c, .s sl, .s q], .s (vs.getD (j+1) [])] (.tup [.agg [N (lM q c sl (vs.getD (j+1) [])),N (lR q c sl (vs.getD (j+1) []))],E 0]))\/(vs.getD (j+1) []≠[]/\aH 221 [.agg [.s c, .s sl, .s q], .s (vs.getD (j+1) [])] (.tup [.agg [N (lM q c sl (vs.getD (j+1) [])),N (lR q c sl (vs.getD (j+1) []))],E 0])):=by
        by_cases h:vs.getD (j+1) []=[]
        ·refine .inl ⟨h,?_⟩;rw[h,lM,lR,af rfl,af rfl,eq];exact GN c sl q []
        ·obtain⟨k1,k3⟩:=hv _ (ai [] hlt);refine .inr ⟨h,?_⟩;rw[lM,lR,aa h,aa h];exact u9 (q:=q) hr k1 h k3
       generalize lM q c sl (vs.getD (j+1) [])=A at*;generalize lR q c sl (vs.getD (j+1) [])=B at*;generalize vs.getD (j+1) []=b at*;simp only[bO]at e1 hk;rcases hcs with⟨hb,hi1⟩|⟨hb,hi1⟩
       all_goals
        first|rw[af hb]at hk|rw[aa hb]at hk
        rw[r1]at hgo;refine rz (aN @l2 (aN @e1 (aN @q1 @q2))) @hk @hi1 ?_;refine hgo _ ?_
        (refine AS.Le.of (by first|decide|omega) ?_ ?_<;>simp[cU,cT,aO,az,AV.bd,AV.bd.bdL,u8,aj,ak,an])
        all_goals (intro c hc;rcases hc with h|h|h<;>first|exact bj h|(subst h;rfl))
      ·obtain hjv:j+1=vs.length:=oO;rw[hjv,bm]at q1 q2;rw[hjv,bm];have q3:=dI hL vs;have q4:=cK hL vs;repeat' first|simp only[go_sem,seval,l2,q1,q2,q3,q4,dj]|refine oE ?_|apply xX<;>intro hc
       all_goals skip
   ·obtain rfl:vs=[]:=dt.1 oO;exact QS @l2
theorem uW {s:aT} (h:xQ c sl s):aH 70 [.agg [.s c, .s sl],s.pv] (.tup [.sl (s.vars.map fun b=>N (lM (ba s.groups) c sl b)), .sl (s.vars.map fun b=>N (lR (ba s.groups) c sl b)),E 0]):=by
 have hb:=u6 h;have nv:=h.g.nv;obtain⟨gs,vs,es⟩:=s;simp only at hb nv⊢;clear h;generalize ba gs=o at*;have l2:(vs.map (lP o c sl)).length=vs.length:=au ..;unfold aT.pv at*;simp only at*
 by_cases hpos:0<vs.length
 rotate_left
 ·obtain rfl:vs=[]:=dt.1 oO;refine eW call70 func70 ?_;exact YY @hb
 have hM:cH (fun b=>N (lM o c sl b)) 1:=⟨fun _=>rfl,fun _ y hy=>by cases fa.1 hy;rfl,fun _ _=>rfl,fun h=>aJ rfl h⟩
 have hR0:cH (fun b=>N (lR o c sl b)) 1:=⟨fun _=>rfl,fun _ y hy=>by cases fa.1 hy;rfl,fun _ _=>rfl,fun h=>aJ rfl h⟩
 have row1: ∀{i:Nat},i<vs.length->aP (fun b=>N (lM o c sl b)) (vs.take (i+1))=aP (fun b=>N (lM o c sl b)) (vs.take i)++[.v (N (lM o c sl (vs.getD i [])))]:=fun h=>by
  rw[aL [] h,bU];rfl
 have LF: ∀{i:Nat},i<vs.length->aP (fun b=>N (lR o c sl b)) (vs.take (i+1))=aP (fun b=>N (lR o c sl b)) (vs.take i)++[.v (N (lR o c sl (vs.getD i [])))]:=fun h=>by
  rw[aL [] h,bU];rfl
 refine eW call70 func70 ?_;refine jA @l2 @hb ?_;refine aq ?_;have e1:=getD_map (lP o c sl) vs [] hpos;have r1:=row1 hpos;have r2:=LF hpos;simp only[lP]at e1;refine dh (aN @l2 @e1) ?_;refine ah (α:=Nat) (fun j=>vs.length-(j+1)) (fun j=>⟨[(9, .rs 1029 j 0 (j+1) 1),(10, .rs 1034 j 0 (j+1) 1),(22, .v (.sl (vs.map (lP o c sl)))),(23,E' vs.length),(24,E' (j+1))],[(1029,⟨j,aP (fun b=>N (lM o c sl b)) (vs.take (j+1)),true,some 22⟩),(1034,⟨j,aP (fun b=>N (lR o c sl b)) (vs.take (j+1)),true,some 22⟩)],1039⟩) (fun j=>j+1<=vs.length) 0 (fun _=>cd rfl) hpos ?_ ?_
 ·rw[eX,r1,r2,List.take_zero,show aP (fun b=>N (lM o c sl b)) []=[]from rfl,show aP (fun b=>N (lR o c sl b)) []=[]from rfl]
  exact lE
 ·intro j hj R hR;have hj1:(vs.take (j+1)).length=j+1:=by rw[bQ];omega
  have q1:=bT hM (vs.take (j+1));have q2:=cf hM (vs.take (j+1));have q5:=bT hR0 (vs.take (j+1));have q6:=cf hR0 (vs.take (j+1));rw[hj1,dr]at q1 q2 q5 q6
  by_cases hlt:j+1<vs.length
  ·have e1:=getD_map (lP o c sl) vs [] hlt;have r1:=row1 hlt;have r2:=LF hlt;simp only[lP]at e1;have hgo:=hR (j+1) oO oO;rw[r1,r2]at hgo;clear hR;refine dw (aN @l2 (aN @e1 (aN @q1 (aN @q2 (aN @q5 @q6))))) ?_;refine hgo _ ?_
   (refine AS.Le.of (by first|decide|omega) ?_ ?_<;>simp[cU,cT,aO,az,AV.bd,AV.bd.bdL,u8,aj,ak,an])
   all_goals (refine⟨?_,?_⟩<;>(intro c hc;rcases hc with h|h<;>first|exact bj h|(subst h;rfl)))
  ·obtain hjv:j+1=vs.length:=oO;rw[hjv,bm]at q1 q2 q5 q6;rw[hjv,bm];have q3:=dI hM vs;have q4:chunk 1 vs.length (List.flatMap (fun x=>[PV.s (b7 (lM o c sl x))]) vs)=vs.map fun b=>N (lM o c sl b):=cK hM vs
   have q7:=dI hR0 vs;have q8:chunk 1 vs.length (List.flatMap (fun x=>[PV.s (b7 (lR o c sl x))]) vs)=vs.map fun b=>N (lR o c sl b):=cK hR0 vs
   repeat' first|simp only[go_sem,seval,l2,q1,q2,q3,q4,q5,q6,q7,q8,dj]|refine oE ?_|apply xX<;>intro hc
   all_goals skip
structure YM (s:aT):Prop where
 g: ∃m o,s.groups=[(m,o)]/\m.length<=1000/\o.length<=1000
 v0:s.vars≠[]
 nv:s.vars.length<=64
 v: ∀b∈s.vars,b.length<=1000
 ne:s.eqs.length<=64
 q: ∀q∈s.eqs,0<=q.ig/\q.ig<100/\q.tgt.length<=1000/\q.terms.length<=64/\ ∀t∈q.terms,0<=t.var/\t.var<100/\t.base.length<=1000/\t.abs.length<=1000
theorem ir {l:List dx} (hs:st.length=32):(l.foldl fC st).length=32:=by
 induction l generalizing st with
 |nil=>exact hs
 |cons t l ih=>exact ih (Iy _ _ _)
theorem iq {l:List bZ} (hs:st.length=32):(l.foldl fB st).length=32:=by
 induction l generalizing st with
 |nil=>exact hs
 |cons q l ih=>exact ih (ir (cL _ _ _))
theorem re {s:aT} (hp:xQ c sl s):aH 28 [.agg [.s c, .s sl],s.pv,C0] (.tup [X0 c sl s,E 0]):=by
 have hb:=uW hp;obtain⟨gs,vs,es⟩:=s;simp only[aT.pv,X0]at hb⊢;refine eW call28 func28 ?_;exact z2 @hb @De
theorem ti {s:aT}:(gn st s).length=32:=by
 unfold gn;exact iq (cL _ _ _)
end Go.Proofs.Tryz
namespace Go.Proofs.Tryz
open Go Go.Dom Go.Num
variable {M i:Nat} {sd x:Bytes} {vs:List Bytes}
def Bg (vs:List Bytes) (sd:Bytes) (i M:Nat):Except Int Int:=
 match oi vs sd i (b7 (2*M-1))with
 | .error e=> .error e
 | .ok x=> .ok ((num x:Int)-(M-1:Nat))
theorem CZ (st:Bytes) {c:Bytes} (h:2<=num c):ic st c<num c:=aV _ oO
theorem Ub {f:Nat->Bytes} {n:Nat}: ∀{k a:Nat},GI f n a k=some x->num x<n/\ ∃b,x=f b:=by
 intro k
 induction k with
 |zero=>intro a h;cases h
 |succ k ih=>
  intro a h;rw[GI]at h
  split at h
  ·rename_i hlt;injection h with h
   subst h;exact⟨hlt,a,rfl⟩
  ·exact ih h
theorem qO {n x:Bytes} (hv:vs.all ae=true) (hn:ae n=true) (hl:vs.length<1000000) (hi:i<=2147483647) (h:oi vs sd i n= .ok x):ae x=true/\num x<num n/\i+1<=2147483647:=by
 unfold oi at h
 split at h
 ·rename_i hiv
  split at h
  ·cases h
  ·rename_i hlt;injection h with h
   subst h;exact⟨bz.1 hv _ (FL hiv),oO,oO⟩
 ·split at h
  ·cases h
  ·rename_i hs;have hi2:i≠2147483647:=fun e=>hs (.inr e)
   split at h
   ·rename_i y hy;injection h with h
    subst h;obtain⟨h1,b,hb⟩:=Ub hy;exact⟨by rw[hb];exact zF sd i b (Fm hn),h1,oO⟩
   ·cases h
theorem Qi {z:Int} (hv:vs.all ae=true) (h1:1<=M) (h2:2*M<ek) (hl:vs.length<1000000) (hi:i<=2147483647) (h:Bg vs sd i M= .ok z):z.natAbs<M/\i+1<=2147483647:=by
 unfold Bg at h
 split at h
 ·cases h
 ·rename_i x hx;obtain⟨-,h3,h4⟩:=qO hv (vB oO) hl hi hx;rw[bG]at h3;injection h with h
  subst h;exact⟨oO,h4⟩
theorem wC {n:Bytes} {e:Int} (h:oi vs sd i n= .error e):e=2\/e=14:=by
 unfold oi at h
 split at h
 ·split at h
  ·injection h with h;exact .inl h.symm
  ·cases h
 ·split at h
  ·injection h with h;exact .inr h.symm
  ·split at h
   ·cases h
   ·injection h with h;exact .inr h.symm
theorem LM {e:Int} (h:Bg vs sd i M= .error e):e=2\/e=14:=by
 unfold Bg at h
 split at h
 ·rename_i e' he;injection h with h
  subst h;exact wC he
 ·cases h
theorem SU (h:ae x=true):iB (num x:Int)=(false,x):=by
 have e:b7 (num x)=x:=by have:=fA h;injection this
 simp[iB,zs,zb,e]
end Go.Proofs.Tryz
namespace Go.Proofs.Tryz
open Go Go.Dom Go.Num
def u7 (vs:List Bytes) (sd:Bytes) (i:Nat):Except Int Int->PV
 | .ok z=> .tup [Z z,T vs sd (i+1:Nat),E 0]
 | .error e=> .tup [.agg [.b false, .s []],T [] [] 0,E e]
theorem B4 {vs:List Bytes} {sd:Bytes} {i M:Nat} (hv:vs.all ae=true) (hi:i<=2147483647) (hl:vs.length<1000000) (hsd:sd.length<1000000) (h1:1<=M) (h2:3*M<ek):aH 222 [T vs sd i,N M] (u7 vs sd i (Bg vs sd i M)):=by
 have hM:b7 M≠[]:=by rw[ne_eq,jh];omega
 have hN:ae (b7 (2*M-1))=true:=vB oO;have hr:=Bc vs sd i (b7 M) oO;rw[PK hv (vB oO) hM hi]at hr;have ha:=VR (a:=M) (b:=M) oO;have hs:=Bl (a:=M) (b:=1) oO oO;have ho:=Bl (a:=M+M) (b:=1) oO oO;have hd:=Fv (sd:=sd) hv hN (by rw[bG];omega) hi hl hsd
 rw[<-fS]at hs ho;rw[show M+M-1=2*M-1 by omega]at ho
 unfold Bg;generalize hD:oi vs sd i (b7 (2*M-1))=r at*
 cases r with
 |error e=>
  unfold Ch at hd;unfold u7;rcases wC hD with rfl|rfl
  ·refine eW call222 func222 ?_;exact z7 @hr @ha @hs @ho @hd oT oT
  ·refine eW call222 func222 ?_;exact z7 @hr @ha @hs @ho @hd oT oT
 |ok x=>
  obtain⟨vx,hx,-⟩:=qO hv hN hl hi hD;rw[bG]at hx;have hz:=UU (x:=(num x:Int)) (y:=((M-1:Nat):Int)) oO;have e1:Z (num x:Int)= .agg [.b false, .s x]:=by rw[<-SS,SU vx];rfl
  have e2:Z ((M-1:Nat):Int)= .agg [.b false,N (M-1)]:=rfl;rw[e1,e2]at hz;unfold Ch at hd;unfold u7;simp only;refine eW call222 func222 ?_;exact z7 @hr @ha @hs @ho @hd @hz oT
theorem G9:cH Zp 2:=⟨fun _=>rfl,fun x y hy=>by simp[Zp,ca,iB,PV.cells]at hy;rcases hy with rfl|rfl<;>rfl,fun h=>oO,fun _ x=>rfl⟩
def OO (vs:List Bytes) (sd:Bytes) (j:Nat):Except Int (List Int)->PV
 | .ok ms=> .tup [.sl (ms.map Zp),T vs sd j,E 0]
 | .error e=> .tup [.sl [],T [] [] 0,E e]
theorem DH {c sl b:Bytes} (hr:we c sl) (vb:ae b=true) (hb:b≠[]) (lb:b.length<=16):1<=qV c sl b/\3*qV c sl b<ek:=by
 have h1:=hr.c2;have h2:=hr.s2;have h3:=HW vb hb;unfold qV;refine⟨qo (qo oO oO) oO,?_⟩;have g1:num sl<256^8:=bM (cO sl) (dp oC hr.ls);have g2:num c<256^8:=bM (cO c) (dp oC hr.lc);have g3:num b<256^16:=bM (cO b) (dp oC lb);have g4:num sl*num c*num b<=256^8*256^8*256^16:=lD (lD (lH g1) (lH g2)) (lH g3);exact eR (jR 3 g4) (by unfold ek;decide+kernel)
theorem Kb (ms:List Int) (z:Int):aP Zp (ms++[z])=aP Zp ms++[.v (.b (zs z)), .v (.s (zb z))]:=by rw[bU];rfl
end Go.Proofs.Tryz
namespace Go.Proofs.Tryz
open Go Go.Dom
theorem HB {a b:Bytes} (ha:ae a=true) (hb:ae b=true) (h0:0<num b):aH 348 [.s a, .s b] (.tup [N (num a/num b),N (num a%num b)]):=by
 by_cases h:a.length<=8\/num a<num b
 ·exact wA ha hb h0 h
 ·exact KB ha hb h0 oO oO
theorem Rf {a b:Nat} (ha:a<ek) (hb:b<ek) (h0:0<b):aH 289 [N a,N b] (.tup [N (a/b),N (a%b),E 0]):=by
 have va:=rZ ha;have vb:=rZ hb;have hd:=HB va vb (by rw[bG];exact h0)
 have v1:=aX (b7 a);have v2:=aX (b7 b);have hz:=tF (n:=b) oO;rw[va]at v1;rw[vb]at v2;rw[bG,bG]at hd;refine eW call289 func289 ?_;exact ry @hz @v1 @v2 @hd oT
end Go.Proofs.Tryz
namespace Go.Proofs.Tryz
open Go Go.Dom Go.Num
variable {L i:Nat} {b c o sd sl:Bytes} {e x:Int} {vs:List Bytes}
def pR (o c sl:Bytes) (vs:List Bytes) (sd b:Bytes) (i:Nat):Except Int Int:=
 if b=[]then(match oi vs sd i o with
  | .error e=> .error e
  | .ok x=> .ok (num x:Int))else Bg vs sd i (qV c sl b)
def pY (o c sl:Bytes) (vs:List Bytes) (sd:Bytes):List Bytes->Nat->List Int->Except Int (List Int)
 |[],_,acc=> .ok acc
 |b::us,i,acc=>match pR o c sl vs sd b i with
  | .error e=> .error e
  | .ok z=>pY o c sl vs sd us (i+1) (acc++[z])
theorem zY (h:pR o c sl vs sd b i= .error e):e=2\/e=14:=by
 unfold pR at h
 split at h
 ·split at h
  ·rename_i e' he;injection h with h
   subst h;exact wC he
  ·cases h
 ·exact LM h
theorem Gb: ∀{us:List Bytes} {i:Nat} {acc:List Int},pY o c sl vs sd us i acc= .error e->e=2\/e=14:=by
 intro us
 induction us with
 |nil=>intro i acc h;cases h
 |cons b us ih=>
  intro i acc h;rw[pY]at h
  split at h
  ·rename_i e' he;injection h with h
   subst h;exact zY he
  ·exact ih h
theorem JE (h:o.length<=8):num o<ek:=bM (ga h) (by unfold ek;decide+kernel)
theorem UZ (hr:we c sl) (lo:o.length<=8) (lb:b.length<=16):lM o c sl b<ek:=by
 unfold lM;split
 ·exact JE lo
 ·exact yz hr lb
theorem Dt {z:Int} (hr:we c sl) (vo:ae o=true) (hb:ae b=true/\b.length<=16) (hv:vs.all ae=true) (hl:vs.length<1000000) (hi:i<=2147483647) (h:pR o c sl vs sd b i= .ok z):jJ b z (lM o c sl b)=true/\i+1<=2147483647:=by
 unfold pR at h
 split at h
 ·rename_i hb0
  split at h
  ·cases h
  ·rename_i x hx;injection h with h
   subst h;obtain⟨-,h2,h3⟩:=qO hv vo hl hi hx;refine⟨?_,h3⟩;simp only[jJ,lM,hb0,aC,bc,a8,fW,bE,kM,decide_true];omega
 ·rename_i hb0;have hm:=DH hr hb.1 hb0 hb.2;obtain⟨h2,h3⟩:=Qi hv hm.1 oO hl hi h;refine⟨?_,h3⟩;simp only[jJ,lM,hb0,aB,decide_false,br,dW,me,a8];exact h2
theorem Td (hr:we c sl) (vo:ae o=true) (hv:vs.all ae=true) (hl:vs.length<1000000): ∀(us:List Bytes) (i:Nat) (acc l:List Int),(∀b∈us,ae b=true/\b.length<=16)->i<=2147483647->pY o c sl vs sd us i acc= .ok l-> ∃r,l=acc++r/\r.length=us.length/\(∀j,j<us.length->jJ (us.getD j []) (r.getD j 0) (lM o c sl (us.getD j []))=true)/\i+us.length<=2147483647:=by
 intro us
 induction us with
 |nil=>intro i acc l _ hi h;injection h with h;exact⟨[],by simp[h],rfl,(fun j hj=>(kI _ hj).elim),hi⟩
 |cons b us ih=>
  intro i acc l hb hi h;rw[pY]at h
  split at h
  ·cases h
  ·rename_i z hz;obtain⟨h3,h4⟩:=Dt hr vo (hb b (.head _)) hv hl hi hz;obtain⟨r,h5,h6,h7,h8⟩:=ih _ _ _ (fun b' hm=>hb b' (.tail _ hm)) h4 h
   refine⟨z::r,by rw[h5];simp,by simp[h6],?_,by simp;omega⟩
   intro j hj
   cases j with
   |zero=>exact h3
   |succ j=>exact h7 j (by simpa using hj)
theorem DB (h:jJ b x L=true):x.natAbs<L/\(b=[]->0<=x):=by
 simp only[jJ,bc,a8,fW,Bool.and_eq_false_imp,kM]at h;exact⟨h.1,fun hb=>by have:=h.2 hb;omega⟩
theorem AA {s:aT} (hp:xQ c sl s) (hv:vs.all ae=true) (hi:i<=2147483647) (hl:vs.length<1000000) {ms:List Int} (h:pY (ba s.groups) c sl vs sd s.vars i []= .ok ms):
  ms.length=s.vars.length/\(∀j,j<s.vars.length->jJ (s.vars.getD j []) (ms.getD j 0) (lM (ba s.groups) c sl (s.vars.getD j []))=true)/\i+s.vars.length<=2147483647/\ ∀x∈ms,x.natAbs<ek:=by
 have ho:=dZ hp.g.g;obtain⟨r,h1,h2,h3,h4⟩:=Td hp.r ho.1 hv hl _ _ _ _ hp.g.v hi h;rw[List.nil_append]at h1;subst h1;refine⟨h2,h3,h4,fun x hx=> ?_⟩
 obtain⟨j,hj,rfl⟩:=fU hx;have:=(DB (h3 j oO)).1;rw[bu,bC hj]at this;exact j5 this (UZ hp.r ho.2 (hp.g.v _ (ai [] oO)).2)
theorem Xc {a:Bytes} (h:a.length<=16):num a<256^16:=bM (cO a) (dp oC h)
theorem Zj {s:aT} (hs:xq s) {w:List Int} (hwl:w.length=s.vars.length) (hw: ∀x∈w,x.natAbs<256^100):WS s w:=by
 intro q hq t ht;obtain⟨t1,t2,t3,t4⟩:=(hs.q q hq).2.2.2.2 t ht;have hl:=((hs.b.q q hq).2 t ht);have hx:=hw _ (ai 0 (show t.var.toNat<w.length by omega))
 refine⟨t1,oO,t4,j5 hx (by unfold ek;exact EH oC oC),?_⟩
 rw[vU];refine eR (lD (lH (Xc hl)) (lH hx)) ?_;unfold ek;rw[<-dD];exact EH oC oC
theorem OD (hr:we c sl) (lo:o.length<=8) (lb:b.length<=16):lM o c sl b<256^33:=by
 unfold lM;split
 ·exact bM (ga lo) (by decide+kernel)
 ·have h1:num sl*num c<(2^64)*(2^64):=fT (ga hr.ls) (ga hr.lc);have h2:qV c sl b<(2^64)*(2^64)*eB:=fT h1 (Ge lb);exact bM h2 (by unfold eB;decide+kernel)
theorem So {s:aT} (hp:xQ c sl s) (ho:[]∈s.vars->ba s.groups≠[]) (hv:vs.all ae=true) (hi:i<=2147483647) (hl:vs.length<1000000) (hsd:sd.length<1000000):
  aH 133 [s.pv, .sl (s.vars.map (lP (ba s.groups) c sl)),T vs sd i] (OO vs sd (i+s.vars.length) (pY (ba s.groups) c sl vs sd s.vars i [])):=by
 have hb:=hp.g.v;have nv:=hp.g.nv;have hr:=hp.r;have vo:=(dZ hp.g.g).1;obtain⟨gs,us,es⟩:=s;simp only at hb nv ho vo⊢;clear hp;generalize ba gs=o at*;have l2:(us.map bO).length=us.length:=au ..;have l3:(us.map (lP o c sl)).length=us.length:=au ..;obtain⟨R0,hR0⟩: ∃R0,R0=pY o c sl vs sd (us.drop 0) i []:=⟨_,rfl⟩;rw[show pY o c sl vs sd us i []=pY o c sl vs sd (us.drop 0) i []from rfl,<-hR0]
 unfold aT.pv;simp only
 by_cases hpos:0<us.length
 rotate_left
 ·obtain rfl:us=[]:=dt.1 oO;rw[List.drop_nil,pY]at hR0;subst hR0;refine eW call133 func133 ?_;exact Uu
 refine eW call133 func133 ?_;refine dh @l2 ?_;refine aq ?_;have hz0:0<us.length:=hpos;have e1:=getD_map bO us [] hpos;have e2:=getD_map (lP o c sl) us [] hpos;have kb:=hb _ (ai [] hpos);have hk:=pc (us.getD 0 []);have hdo:=fun hi z (h:pR o c sl vs sd (us.getD 0 []) i= .ok z)=>(Dt (i:=i) hr vo kb hv hl hi h).2
 have hcs:(us.getD 0 []=[]/\ ∀ _:i<=2147483647,aH 223 [T vs sd (i:Nat),N (lM o c sl (us.getD 0 []))] (match pR o c sl vs sd (us.getD 0 []) i with
   | .ok z=> .tup [.s (zb z),T vs sd ((i+1:Nat):Int),E 0]
   | .error e=> .tup [.s [],T [] [] 0,E e])/\ ∀z,pR o c sl vs sd (us.getD 0 []) i= .ok z->zs z=false)\/(us.getD 0 []≠[]/\ ∀ _:i<=2147483647,aH 222 [T vs sd (i:Nat),N (lM o c sl (us.getD 0 []))] (u7 vs sd i (pR o c sl vs sd (us.getD 0 []) i))):=by
  by_cases h:us.getD 0 []=[]
  ·refine .inl ⟨h,fun hi=> ?_⟩
   have hbl:=BV (sd:=sd) (n:=o) hv vo (ho (by rw[<-h];exact ai [] hpos)) hi hl hsd
   rw[lM,af h,fA vo];unfold pR;rw[af h]
   cases hd:oi vs sd (i) o with
   |error e=>
    rw[hd]at hbl;exact⟨hbl,fun z hz=>by cases hz⟩
   |ok x=>
    have hx:=(qO hv vo hl hi hd).1;rw[hd]at hbl;refine⟨?_,fun z hz=>by dsimp only at hz;injection hz with hz;subst hz;simp[zs]⟩
    dsimp only;rw[show zb (num x:Int)=x from by rw[zb,Int.natAbs_natCast];exact jr hx]
    exact hbl
  ·have hm:=DH hr kb.1 h kb.2;refine .inr ⟨h,fun hi=> ?_⟩
   rw[lM,aa h,pR,aa h];exact B4 (vs:=vs) (sd:=sd) (i:=i) hv hi hl hsd hm.1 hm.2
 rw[aE [] hpos,pY]at hR0;clear kb;generalize us.getD 0 []=u at*;simp only[bO]at e1 hk;simp only[lP]at e2;generalize lM o c sl u=M at*;generalize lR o c sl u=Rr at*;rcases hcs with⟨hu,hg⟩|⟨hu,hg⟩
 all_goals
  first|rw[af hu]at hk|rw[aa hu]at hk
  have hg:=hg hi
  cases hsg:pR o c sl vs sd u i with
  |error e=>
   rw[hsg]at hg hR0;simp only[u7]at hg hR0;have he:(e !=0)=true:=by rcases zY hsg with rfl|rfl<;>rfl
   subst hR0
   first
    |have hg:=hg.1
    |skip
   exact vV (aN @l2 (aN @l3 (aN @e1 (aN @e2 @he)))) @hk @hg
  |ok z=>
   have hsi:i+(0+1)<=2147483647:=hdo hi z hsg;rw[hsg]at hg hR0;simp only[u7]at hg hR0
   first
    |(have hzz:=hg.2 z rfl
      have hg:=hg.1)
    |have hzz:zs z=zs z:=rfl
   refine rz (aN @l2 (aN @l3 (aN @e1 @e2))) @hk @hg ?_;obtain⟨nm,hnm⟩: ∃nm,nm=(if u=[]then 1042 else 1041):=⟨_,rfl⟩
   first|rw[af hu]at hnm|rw[aa hu]at hnm
   clear e1 e2 hk hg hdo hu;refine ah (α:=Nat×List Int) (fun p=>us.length-(p.1+1)) (fun p=>⟨[(1, .v (.sl (us.map (lP o c sl)))),(3, .p 1000 0 0),(5, .p 1001 0 0),(7, .p 1003 0 0),(9, .rs nm p.1 0 (p.1+1) 2),(15, .v (.sl (us.map bO))),(16,E' us.length),(17,E' (p.1+1))],[(1000,⟨0,[.v (.sl (gs.map cz)), .v (.sl (us.map bO)), .v (.sl (es.map bZ.pv))],false,none⟩),(1001,⟨0,[.v (.sl (vs.map .s)), .v (.s sd), .v (.i .i64 ((i+(p.1+1):Nat):Int))],false,none⟩),(1003,⟨0,[.sn, .v (.s []), .v (.i .i64 0)],false,some 82⟩),(nm,⟨p.1,aP Zp p.2,true,some 77⟩)],1045⟩) (fun p=>p.1+1<=us.length/\p.2.length=p.1+1/\i+(p.1+1)<=2147483647/\R0=pY o c sl vs sd (us.drop (p.1+1)) (i+(p.1+1)) p.2) (0,[z]) (fun _=>cd rfl) ⟨hpos,rfl,hsi,hR0⟩ ?_ ?_<;>subst hnm
   ·refine lG ?_;all_goals exact⟨by first|rfl|(rw[<-hzz];rfl),fun c hc=>bj hc⟩
   ·clear hzz hR0 hsi;rintro⟨j,ms⟩ ⟨hj,hlm,hij,hR0⟩ R hR;simp only at hj hlm hij hR0;have q1:=bT G9 ms;have q2:=cf G9 ms;rw[hlm]at q1 q2
    by_cases hlt:j+1<us.length
    ·have e1:=getD_map bO us [] hlt;have e2:=getD_map (lP o c sl) us [] hlt;have kb:=hb _ (ai [] hlt);have hk:=pc (us.getD (j+1) []);have hdo:=fun hi z (h:pR o c sl vs sd (us.getD (j+1) []) (i+(j+1))= .ok z)=>(Dt (i:=(i+(j+1))) hr vo kb hv hl hi h).2
     have hcs:(us.getD (j+1) []=[]/\ ∀ _:(i+(j+1))<=2147483647,aH 223 [T vs sd ((i+(j+1)):Nat),N (lM o c sl (us.getD (j+1) []))] (match pR o c sl vs sd (us.getD (j+1) []) (i+(j+1))with
       | .ok z=> .tup [.s (zb z),T vs sd (((i+(j+1))+1:Nat):Int),E 0]
       | .error e=> .tup [.s [],T [] [] 0,E e])/\ ∀z,pR o c sl vs sd (us.getD (j+1) []) (i+(j+1))= .ok z->zs z=false)\/(us.getD (j+1) []≠[]/\ ∀ _:(i+(j+1))<=2147483647,aH 222 [T vs sd ((i+(j+1)):Nat),N (lM o c sl (us.getD (j+1) []))] (u7 vs sd (i+(j+1)) (pR o c sl vs sd (us.getD (j+1) []) (i+(j+1))))):=by
      by_cases h:us.getD (j+1) []=[]
      ·refine .inl ⟨h,fun hi=> ?_⟩
       have hbl:=BV (sd:=sd) (n:=o) hv vo (ho (by rw[<-h];exact ai [] hlt)) hi hl hsd
       rw[lM,af h,fA vo];unfold pR;rw[af h]
       cases hd:oi vs sd ((i+(j+1))) o with
       |error e=>
        rw[hd]at hbl;exact⟨hbl,fun z hz=>by cases hz⟩
       |ok x=>
        have hx:=(qO hv vo hl hi hd).1;rw[hd]at hbl;refine⟨?_,fun z hz=>by dsimp only at hz;injection hz with hz;subst hz;simp[zs]⟩
        dsimp only;rw[show zb (num x:Int)=x from by rw[zb,Int.natAbs_natCast];exact jr hx]
        exact hbl
      ·have hm:=DH hr kb.1 h kb.2;refine .inr ⟨h,fun hi=> ?_⟩
       rw[lM,aa h,pR,aa h];exact B4 (vs:=vs) (sd:=sd) (i:=(i+(j+1))) hv hi hl hsd hm.1 hm.2
     rw[aE [] hlt,pY]at hR0;clear kb;generalize us.getD (j+1) []=u at*;simp only[bO]at e1 hk;simp only[lP]at e2;generalize lM o c sl u=M at*;generalize lR o c sl u=Rr at*;rcases hcs with⟨hu,hg⟩|⟨hu,hg⟩
     all_goals
      first|rw[af hu]at hk|rw[aa hu]at hk
      have hg:=hg hij
      cases hsg:pR o c sl vs sd u (i+(j+1))with
      |error e=>
       rw[hsg]at hg hR0;simp only[u7]at hg hR0;have he:(e !=0)=true:=by rcases zY hsg with rfl|rfl<;>rfl
       subst hR0;clear hR
       first
        |have hg:=hg.1
        |skip
       exact vV (aN @l2 (aN @l3 (aN @e1 (aN @e2 (aN @he (aN @q1 @q2)))))) @hk @hg
      |ok y=>
       have hsi:i+(j+1+1)<=2147483647:=hdo hij y hsg;rw[hsg]at hg hR0;simp only[u7]at hg hR0;have hgo:=hR (j+1,ms++[y]) ⟨oO,by simp[hlm],hsi,hR0⟩ (by simp only;omega)
       simp only[Kb]at hgo
       first
        |(have hzz:=hg.2 y rfl
          have hg:=hg.1;rw[hzz]at hgo)
        |skip
       clear hR;refine rz (aN @l2 (aN @l3 (aN @e1 (aN @e2 (aN @q1 @q2))))) @hk @hg ?_;refine hgo _ ?_;refine lG ?_;all_goals exact⟨oO,fun c hc=>by rcases hc with hc|rfl|rfl<;>first|exact bj hc|rfl⟩
    ·have hjl:us.length=j+1:=oO;rw[gG oO]at hR0;simp only[pY]at hR0;subst hR0;have q3:=dI G9 ms;have q4:=cK G9 ms;rw[hlm]at q4;rw[hjl];clear hR;exact fz (aN @l2 (aN @hjl (aN @q1 (aN @q2 (aN @q3 (aN @q4 @dj))))))
noncomputable def Ni (s:aT) (vs:List Bytes) (sd:Bytes) (j:Nat):Except Int (List Int)->PV
 | .ok ms=> .tup [.sl (ms.map Zp), .sl ((wE s ms).map .s),T vs sd j,E 0]
 | .error e=> .tup [.sl [], .sl [],T [] [] 0,E e]
theorem DE {s:aT} (h:xq s) (hv:[]∈s.vars):ba s.groups≠[]:=by
 have hk:=h.k;unfold uF at hk;rw[m9.2 ⟨[],hv,rfl⟩]at hk;simp only[dy,eH,bc,fW,du]at hk;exact hk.1.1
theorem Kc {s:aT} (hp:xQ c sl s) (hv:vs.all ae=true) (hi:i<=2147483647) (hl:vs.length<1000000) (hsd:sd.length<1000000):
  aH 66 [.agg [.s c, .s sl],s.pv,T vs sd i] (Ni s vs sd (i+s.vars.length) (pY (ba s.groups) c sl vs sd s.vars i [])):=by
 have hb:=u6 hp;have hd:=So hp (DE hp.g) (vs:=vs) (sd:=sd) (i:=i) hv hi hl hsd
 cases hR:pY (ba s.groups) c sl vs sd s.vars i []with
 |error e=>
  have he:(e !=0)=true:=by rcases Gb hR with rfl|rfl<;>rfl
  rw[hR]at hd;obtain⟨gs,us,es⟩:=s;simp only[OO,Ni,aT.pv]at hb hd⊢;refine eW call66 func66 ?_;exact vV @he @hb @hd
 |ok ms=>
  obtain⟨f1,f2,f3,f4⟩:=AA hp hv hi hl hR;have hm:=IP hp.g f1 f4 (Zj hp.g f1 fun x hx=>by
   obtain⟨j,hj,rfl⟩:=fU hx;have:=(DB (f2 j oO)).1;rw[bu,bC hj]at this;exact j5 (j5 this (OD hp.r (dZ hp.g.g).2 (hp.g.v _ (ai [] oO)).2)) (EH oC oC))
  rw[hR]at hd;simp only[OO,Ni]at hd⊢;generalize wE s ms=L at*;obtain⟨gs,us,es⟩:=s;simp only[aT.pv]at hb hd hm⊢;refine eW call66 func66 ?_;exact z4 @hb @hd @hm oT
theorem Tf {a m:Nat} (hm:0<m):(-(a:Int))%m=if a%m=0 then 0 else((m-a%m:Nat):Int):=by
 have h1:=jc a m;have h2:=aV a hm;split
 ·rename_i h;refine((EF (a:= -(a:Int)) (b:=m) (r:=0) (q:= -((a/m:Nat):Int)) oO).2 ⟨?_,oO,oO⟩).2;have:(a:Int)=m*(a/m:Nat):=by rw[<-Int.natCast_mul];omega
  rw[oP,<-this];omega
 ·rename_i h;refine((EF (a:= -(a:Int)) (b:=m) (r:=((m-a%m:Nat):Int)) (q:= -((a/m:Nat):Int)-1) oO).2 ⟨?_,oO,oO⟩).2;have:(m:Int)*(a/m:Nat)+(a%m:Nat)=a:=by rw[<-Int.natCast_mul];omega
  rw[qv,oP,Int.mul_one];omega
theorem UT {m:Nat} (hx:x.natAbs<ek) (hm:m<ek) (h0:0<m):aH 228 [Z x,N m] (.tup [N (x%m).toNat,E 0]):=by
 have v1:=Ek hx;have v2:=aX (b7 m);rw[vB hm]at v2;have hd:=Rf hx hm h0;have hlt:=aV x.natAbs h0;have hs:=Bl (a:=m) (b:=x.natAbs%m) oO hm;have hmb:(b7 m==([]:Bytes))=false:=by
  rw[du,ne_eq,jh];omega
 have hr:(x%m).toNat=if x<0/\x.natAbs%m≠0 then m-x.natAbs%m else x.natAbs%m:=by
  by_cases hn:x<0
  ·have e:x= -(x.natAbs:Int):=oO;have h:=Tf (a:=x.natAbs) h0;rw[<-e]at h;rw[h];split
   ·rename_i g;rw[aa (by simp[g])];omega
   ·rename_i g;rw[af ⟨hn,g⟩];omega
  ·rw[aa (by simp[hn])]
   have e:x=(x.natAbs:Int):=oO
   conv=>lhs;rw[e]
   rw[<-Int.natCast_emod,Int.toNat_natCast]
 rw[hr];have hbb: ∀ _:True,(b7 (x.natAbs%m)==([]:Bytes))=decide (x.natAbs%m=0):=fun _=>by
  rw[cu,fK,jh,a8]
 generalize x.natAbs%m=r at*;have hzs:zs x=decide (x<0):=rfl;clear hx hlt hr;unfold Z at v1⊢
 by_cases h1:x<0
 ·rw[aQ h1]at hzs;rw[hzs]at v1⊢
  by_cases h2:r=0
  ·rw[aQ h2]at hbb;rw[aa (by simp[h2])]
   refine eW call228 func228 ?_;exact ry (aN @hmb (hbb oT)) @v1 @v2 @hd @hs
  ·rw[aS h2]at hbb;rw[af ⟨h1,h2⟩];refine eW call228 func228 ?_;exact ry (aN @hmb (hbb oT)) @v1 @v2 @hd @hs
 ·rw[aS h1]at hzs;rw[hzs]at v1⊢;rw[aa (by simp[h1])]
  refine eW call228 func228 ?_;exact ry @hmb @v1 @v2 @hd @hs
theorem uZ (b:Bytes) (hx:x.natAbs<ek) (hL:L<ek):aH 139 [bO b,Zp x,N L] (.b (jJ b x L)):=by
 have hk:=pc b;have hc:=zS hx hL;have hd: ∀ _:True,decide (a7 x.natAbs L<0)=decide (x.natAbs<L):=fun _=>by rw[cu];simp only[a8];exact fZ
 generalize a7 x.natAbs L=cm at*;have hzs:zs x=decide (x<0):=rfl;rw[show N x.natAbs= .s (zb x)from rfl]at hc
 unfold jJ;generalize decide (x.natAbs<L)=p at*;generalize decide (x<0)=q at*;simp only[Zp,ca,iB]
 by_cases hb:b=[]
 ·rw[af hb]at hk;rw[aQ hb,bE];unfold bO at hk⊢;refine eW call139 func139 ?_;exact Ur (aN (hd oT) @hzs) @hc @hk
 ·rw[aa hb]at hk;rw[aS hb,br];unfold bO at hk⊢;refine eW call139 func139 ?_;exact Ur (aN (hd oT) @hzs) @hc @hk
theorem T8 {s:aT} (hs:xq s) {w:List Int} (hwl:w.length=s.vars.length) (hw: ∀x∈w,x.natAbs<ek):aH 138 [s.pv, .sl (w.map Zp)] (.b (DC (ba s.groups) s.vars w)):=by
 have hv:=hs.v;have nv:=hs.nv;have hor:=xb s (by have:=hs.ng;omega)
 have hoV:=dZ hs.g;obtain⟨gs,vs,es⟩:=s;simp only at hv hwl nv hor hoV⊢;have l2:(vs.map bO).length=vs.length:=au ..;have l5:(w.map Zp).length=vs.length:=by rw[au];exact hwl
 generalize ba gs=oq at*;unfold aT.pv at*;simp only at*;refine eW call138 func138 ?_;refine jA @l2 @hor ?_;refine ah (α:=Nat) (fun i=>vs.length-i) (fun i=>⟨[(1, .v (.sl (w.map Zp))),(2, .p 1000 0 0),(5, .v (.s oq)),(12, .v (.sl (vs.map bO))),(13,E' vs.length),(14,E' i)],[(1000,⟨0,[.v (.sl (gs.map cz)), .v (.sl (vs.map bO)), .v (.sl (es.map bZ.pv))],false,none⟩)],_⟩) (fun i=>i<=vs.length/\ ∀j,j<i->jJ (vs.getD j []) (w.getD j 0) (gJ oq (vs.getD j []))=true) 0 (fun _=>aA _) ⟨aD _,fun j hj=>oO⟩ ?_ ?_
 ·exact lE
 ·rintro i ⟨hi,hall⟩ R hR
  by_cases hlt:i<vs.length
  ·have e1:=getD_map bO vs [] hlt;have e2:=getD_map Zp w 0 (i:=i) oO;have kb:=hv _ (ai [] hlt);have kw:=hw _ (ai 0 (show i<w.length by omega))
   have hgo:=fun h=>hR (i+1) ⟨oO,h⟩ oO
   have hbad:=fun h: ¬jJ (vs.getD i []) (w.getD i 0) (gJ oq (vs.getD i []))=true=>n8 (p:=fun i=>jJ (vs.getD i []) (w.getD i 0) (gJ oq (vs.getD i []))) hlt (dR.2 h)
   have hnx:jJ (vs.getD i []) (w.getD i 0) (gJ oq (vs.getD i []))=true-> ∀j,j<i+1->jJ (vs.getD j []) (w.getD j 0) (gJ oq (vs.getD j []))=true:=fun h j hj=>by
    by_cases hji:j<i
    ·exact hall j hji
    ·obtain rfl:j=i:=oO;exact h
   rw[<-DC]at hbad;clear hR hall;generalize vs.getD i []=b at*;generalize w.getD i 0=x at*;have hz:=(tC kw);simp only[iB,cr,bc]at hz;clear hz;have hk:=pc b;have hlm:gJ oq b<ek:=by unfold gJ;split;exact JE hoV.2;exact wN kb.1
   have hc:=uZ b kw hlm;have hbl:(b=[]/\N (gJ oq b)= .s oq)\/(b≠[]/\N (gJ oq b)= .s b):=by
    by_cases h:b=[]
    ·exact .inl ⟨h,by rw[gJ,af h];exact fA hoV.1⟩
    ·exact .inr ⟨h,by rw[gJ,aa h];exact fA kb.1⟩
   clear kb kw hlm;generalize hp:jJ b x (gJ oq b)=p at*;simp only[bO]at e1 hk hc;simp only[Zp,ca,iB]at e2 hc;rcases hbl with⟨hb,hL⟩|⟨hb,hL⟩
   all_goals
    first|rw[af hb]at hk|rw[aa hb]at hk
    rw[hL]at hc;cases p
    ·rw[hbad (by simp)]
     exact vV (aN @l2 (aN @l5 (aN @e1 @e2))) @hk @hc
    ·have hgo:=hgo (hnx rfl);exact yd (aN @l2 (aN @l5 (aN @e1 @e2))) @hgo @hk @hc
  ·obtain rfl:i=vs.length:=oO;have hg:DC oq vs w=true:=nu fun j hj=>hall j hj
   rw[hg];exact z0
