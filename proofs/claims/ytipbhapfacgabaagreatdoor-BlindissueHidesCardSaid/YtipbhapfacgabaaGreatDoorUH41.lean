/- Part of the proof. -/
import Derived.Test.YtipbhapfacgabaaGreatDoorUH40
set_option linter.all false
set_option maxHeartbeats 16000000
set_option maxRecDepth 100000
namespace Go.Proofs.Tryz
open Go Go.Dom Go.Num
variable {a c ch ctx o sd sl x:Bytes} {k:Key} {p:cz} {rs:List (Bool×Bytes)} {vs:List Bytes}
def BM (b:Bytes) (x:Bool×Bytes) (L:Nat):Bool:=decide (num x.2<L)&& !(b==[]&&x.1)
theorem Oz (b:Bytes) {n:Bool} (va:aa a=true) {L:Nat} (hL:L<dP):aF 343 [dE b,N L, .agg [.b n, .s a]] (.b (BM b (n,a) L)):=by
 have hc:=Ef (oH va) hL;rw[eT va]at hc;have hd: ∀ _:True,decide (bK (num a) L<0)=decide (num a<L):=fun _=>by rw[cI];simp only[bc];exact ji
 generalize bK (num a) L=cm at*;unfold dE BM;simp only;generalize decide (num a<L)=p at*;generalize hb:(b==([]:Bytes))=q at*
 cases p<;>cases q<;>cases n<;>
 ·refine eW call343 func343 ?_;exact ot (aN @hb (hd oT)) @hc
def GI (o c sl:Bytes) (vs:List Bytes) (l:List (Bool×Bytes)):Bool:=(List.range vs.length).all fun i=>BM (vs.getD i []) (l.getD i lU) (lR o c sl (vs.getD i []))
def iG (o c sl:Bytes) (vs:List Bytes) (ch:Bytes) (l:List (Bool×Bytes)):Int:=
 if !(aa ch&&l.all dh)then 3 else if num c<=num ch then 2 else if l.length≠vs.length then 6 else if !GI o c sl vs l then 2 else 0
noncomputable def qU (c sl:Bytes) (s:cY) (ch:Bytes) (l:List (Bool×Bytes)):List PV:=
 if iG (bZ s.groups) c sl s.vars ch l=0 then s.eqs.map fun q=>N (mz s.groups ch l q)else[]
theorem NJ {l:List (Bool×Bytes)} {i:Nat} (hi:i<vs.length) (h: ¬BM (vs.getD i []) (l.getD i lU) (lR o c sl (vs.getD i []))=true):GI o c sl vs l=false:=by
 unfold GI;rw[dA];intro g;exact h (bJ.1 g i (fE.2 hi))
theorem Bi {l:List (Bool×Bytes)} (h: ∀i,i<vs.length->BM (vs.getD i []) (l.getD i lU) (lR o c sl (vs.getD i []))=true):GI o c sl vs l=true:=by
 unfold GI;rw[bJ];intro i hi;exact h i (fE.1 hi)
theorem RR {s:cY} (hp:DP c sl s) {l:List (Bool×Bytes)} (hll:l.length<1000000):aF 290 [.agg [.s c, .s sl],s.pv, .s ch, .sl (l.map fw)] (.tup [.sl (qU c sl s ch l),E (iG (bZ s.groups) c sl s.vars ch l)]):=by
 have hr:=hp.r;have hs:=hp.g;have hb:=Fm hp;have lo:=(fM hs.g).2;clear hp;have vh:=aD ch;have hi:=OH l hll;have l5:(l.map fw).length=l.length:=aR ..;have l2:(s.vars.map dE).length=s.vars.length:=aR ..;have l6:(s.vars.map fun b=>N (lR (bZ s.groups) c sl b)).length=s.vars.length:=aR ..
 have nv:=hs.nv
 by_cases g1:aa ch=true/\l.all dh=true
 case neg=>
  have e:(aa ch&&l.all dh)=false:=by rw[dA];intro g;simp at g;exact g1 ⟨g.1,by simpa[bJ]using g.2⟩
  have e2:iG (bZ s.groups) c sl s.vars ch l=3:=by simp only[iG,e];rfl
  rw[qU,af (by rw[e2];decide),e2]
  clear e2 hs;unfold cY.pv at*;generalize aa ch=b1 at*;generalize l.all dh=b2 at*;refine eW call290 func290 ?_;repeat' first|simp only[go_sem,seval]|refine cP hb ?_|refine cP vh ?_|refine cP hi ?_|refine oE ?_|apply xX<;>intro hc
  all_goals (exfalso;simp_all)
 obtain⟨vc,hok⟩:=g1;rw[vc]at vh;rw[hok]at hi;have hcm:=jZ vc hr.vc
 by_cases g2:num c<=num ch
 ·have e2:iG (bZ s.groups) c sl s.vars ch l=2:=by simp only[iG,vc,hok];rw[af (by simp),ah g2]
  have hd: ∀ _:True,decide (bK (num ch) (num c)>=0)=true:=fun _=>aS (mP.2 g2)
  rw[qU,af (by rw[e2];decide),e2]
  generalize bK (num ch) (num c)=cm at*;clear e2 hs;unfold cY.pv at*;refine eW call290 func290 ?_;exact zW (hd oT) @hb @vh @hi @hcm
 have hd: ∀ _:True,decide (bK (num ch) (num c)>=0)=false:=fun _=>b9 (fun g=>g2 (mP.1 g))
 by_cases g3:l.length=s.vars.length
 case neg=>
  have e2:iG (bZ s.groups) c sl s.vars ch l=6:=by simp only[iG,vc,hok];rw[af (by simp),af g2,ah g3]
  rw[qU,af (by rw[e2];decide),e2]
  generalize bK (num ch) (num c)=cm at*;clear e2 hs;unfold cY.pv at*;refine eW call290 func290 ?_;repeat' first|simp only[go_sem,seval,hd oT,l5,l2]|refine cP hb ?_|refine cP vh ?_|refine cP hi ?_|refine cP hcm ?_|refine oE ?_|apply xX<;>intro hc
  all_goals (exfalso;omega)
 have hms:=Hg hs.m vc g3 (bJ.1 hok);have hv:=hs.v;have hval: ∀x∈l,aa x.2=true:=fun x hx=>by
  have:=bJ.1 hok x hx;simp only[dh,aV]at this;exact this.1
 have e0:iG (bZ s.groups) c sl s.vars ch l=if !GI (bZ s.groups) c sl s.vars l then 2 else 0:=by
  simp only[iG,vc,hok];rw[af (by simp),af g2,af oO]
 unfold qU;rw[e0];clear e0 hs hok;obtain⟨gs,vs,es⟩:=s;simp only at*;generalize bZ gs=o at*;unfold cY.pv at*;simp only at*;generalize bK (num ch) (num c)=cm at*;refine eW call290 func290 ?_;refine rT (aN (hd oT) (aN @l5 @l2)) @hb @vh @hi @hcm ?_;refine aq (α:=Nat) (fun i=>vs.length-i) (fun i=>⟨[(2, .v (.s ch)),(3, .v (.sl (l.map fw))),(5, .p 1001 0 0),(11, .v (.sl (vs.map fun b=>N (lR o c sl b)))),(45, .v (.sl (vs.map dE))),(46,E' vs.length),(47,E' i)],[(1001,⟨0,[.v (.sl (gs.map gV)), .v (.sl (vs.map dE)), .v (.sl (es.map dS.pv))],false,none⟩)],_⟩) (fun i=>i<=vs.length/\ ∀j,j<i->BM (vs.getD j []) (l.getD j lU) (lR o c sl (vs.getD j []))=true) 0 (fun _=>aB _) ⟨aT _,fun j hj=>oO⟩ ?_ ?_
 ·exact lE
 ·rintro i ⟨hi',hf⟩ R hR
  by_cases hlt:i<vs.length
  ·have e1:=getD_map dE vs [] hlt;have e2:=getD_map (fun b=>N (lR o c sl b)) vs [] hlt
   have hlt2:i<l.length:=oO;have e3:=getD_map fw l lU hlt2;obtain⟨k1,k3⟩:=hv _ (aG [] hlt);have kv:=hval _ (aG lU hlt2);have ad:aF 343 [dE (vs.getD i []),N (lR o c sl (vs.getD i [])),fw (l.getD i lU)] (.b (BM (vs.getD i []) (l.getD i lU) (lR o c sl (vs.getD i [])))):=Oz (vs.getD i []) (n:=(l.getD i lU).1) kv (Ij hr lo k3);have hgo:=hR (i+1)
   by_cases hc2:BM (vs.getD i []) (l.getD i lU) (lR o c sl (vs.getD i []))=true
   ·have hgo:=hgo ⟨oO,fun j hj=>by
     by_cases e:j=i
     ·rw[e];exact hc2
     ·exact hf j oO⟩ oO
    rw[hc2]at ad;clear hR hf hc2 kv k1 k3;generalize lR o c sl (vs.getD i [])=L at*;generalize vs.getD i []=b at*;obtain⟨x,hx⟩: ∃x,x=l.getD i lU:=⟨_,rfl⟩;rw[<-hx]at ad e3;clear hx;obtain⟨xn,xa⟩:=x;simp only[dE,fw]at*;exact qe (aN @l2 (aN @l5 (aN @l6 (aN @e1 (aN @e2 @e3))))) @hgo @ad
   ·rw[NJ hlt hc2];rw[dA.2 hc2]at ad;clear hR hf hgo hc2 kv k1 k3;generalize lR o c sl (vs.getD i [])=L at*;generalize vs.getD i []=b at*;obtain⟨x,hx⟩: ∃x,x=l.getD i lU:=⟨_,rfl⟩;rw[<-hx]at ad e3;clear hx;obtain⟨xn,xa⟩:=x;simp only[dE,fw]at*;exact ot (aN @l2 (aN @l5 (aN @l6 (aN @e1 (aN @e2 @e3))))) @ad
  ·obtain rfl:i=vs.length:=oO;rw[Bi hf];exact ot @l2 @hms
theorem I4 {s:cY} (hp:DP c sl s) (h1:s.eqs≠[]) {l:List (Bool×Bytes)} (hll:l.length<1000000):aF 290 [.agg [.s c, .s sl],s.pv, .s ch, .sl (l.map fw)] (.tup [.sl (qU c sl s ch l),E (iG (bZ s.groups) c sl s.vars ch l)]):=RR hp hll
theorem Ex {α:Type} {f:Nat->α->Nat} {m:Nat} (h: ∀x a,f x a<m): ∀(l:List α) (x:Nat),x<m->l.foldl f x<m
 |[],_,hx=>hx
 |a::l,x,_=>Ex h l _ (h x a)
theorem QC {s:cY} (hs:DZ s) (ch:Bytes) (rs:List (Bool×Bytes)): ∀x∈vY s ch rs,x.length<=8/\aa x=true:=by
 intro x hx;obtain⟨q,hq,rfl⟩:=cG.1 hx;obtain⟨q1,q2,-⟩:=hs.q q hq;have hg:=hs.g _ (aG iC (show q.jA.toNat<s.groups.length by omega))
 have hm:=(qJ hg.1).2.2.1;have hlt:mz s.groups ch rs q<256^8:=by
  refine gj ?_ (cU hg.2.1);unfold mz;exact Ex (fun x a=>aL _ oO) _ _ (aL _ oO)
 exact⟨mN.2 hlt,vN hlt⟩
theorem GK {s:cY} (hp:DP c sl s) (h0:s.vars≠[]) (h00:s.eqs≠[]) (h1:rs.length<1000000) (hf:j4 c s.vars.length ch rs [] []=0) (hi:iG (bZ s.groups) c sl s.vars ch rs≠0):
  aF 217 [X0 c sl s,Lc ch rs [] []] (.tup [PZ0,B0,E (iG (bZ s.groups) c sl s.vars ch rs)]):=by
 have hfo:=Cb (c:=c) (sl:=sl) hp.r.vc s ch rs [] [] h1 (by simp) (by simp) (by simp)
 rw[hf]at hfo;have hfi:=I4 hp h00 (ch:=ch) (l:=rs) h1;have hl:qU c sl s ch rs=[]:=by unfold qU;rw[af hi]
 rw[hl]at hfi;have hb:(iG (bZ s.groups) c sl s.vars ch rs==0)=false:=by simpa using hi
 generalize iG (bZ s.groups) c sl s.vars ch rs=e at*;obtain⟨gq,vs,es⟩:=s;simp only[X0,Lc,cY.pv]at hfo hfi⊢;refine eW call217 func217 ?_;repeat' first|simp only[go_sem,seval,hb]|refine cP hfo ?_|refine cP hfi ?_|refine oE ?_|apply xX<;>intro hc
 all_goals skip
theorem GL {s:cY} (hp:DP c sl s) (h0:s.vars≠[]) (h00:s.eqs≠[]) (h1:rs.length<1000000) (hf:j4 c s.vars.length ch rs [] []=0) (hi:iG (bZ s.groups) c sl s.vars ch rs=0):
  aF 217 [X0 c sl s,Lc ch rs [] []] (.tup [.agg [.sl (s.eqs.map fun q=>N (mz s.groups ch rs q)), .s ch, .sl (rs.map fw)],B0,E 0]):=by
 have hfo:=Cb (c:=c) (sl:=sl) hp.r.vc s ch rs [] [] h1 (by simp) (by simp) (by simp)
 rw[hf]at hfo;have hfi:=I4 hp h00 (ch:=ch) (l:=rs) h1;have hl:qU c sl s ch rs=s.eqs.map fun q=>N (mz s.groups ch rs q):=by unfold qU;rw[ah hi]
 rw[hl,hi]at hfi;have hrs:rs≠[]:=by
  intro h;subst h;unfold j4 at hf;have hv:([]:List (Bool×Bytes)).length≠s.vars.length:=by
   intro h;exact h0 (iZ.1 h.symm)
  split at hf
  ·exact aJ hf oC
  ·rw[ah (.inl hv)]at hf;exact aJ hf oC
 have hcl:=Jl hrs h1;have hcn:=Hz;generalize (s.eqs.map fun q=>N (mz s.groups ch rs q))=fl at*
 obtain⟨gq,vs,es⟩:=s;simp only[X0,Lc,cY.pv,bH]at hfo hfi⊢;refine eW call217 func217 ?_;exact zu4 @hfo @hfi @hcl @hcn
noncomputable def FJ (c sl ctx:Bytes) (s:cY) (ch:Bytes) (rs:List (Bool×Bytes)) (gs:List Bytes) (ls:List (List (Bool×Bytes))):Int:=
 if j4 c s.vars.length ch rs gs ls≠0 then j4 c s.vars.length ch rs gs ls else if iG (bZ s.groups) c sl s.vars ch rs≠0 then iG (bZ s.groups) c sl s.vars ch rs else if aZ (iV (J8 ctx s (vY s ch rs)) c)=ch then 0 else 16
theorem MJ {s:cY} (hp:DP c sl s) (hb:Wo s) (h00:s.eqs≠[]) (hx:ctx.length<=100000) {gs:List Bytes} {ls:List (List (Bool×Bytes))} (h1:rs.length<1000000) (h2:gs.length<=1000) (h3:ls.length<=1000) (h4: ∀l∈ls,l.length<4611686018427387904):
  aF 127 [.agg [.s c, .s sl], .s ctx,s.pv,C0,Lc ch rs gs ls] (E (FJ c sl ctx s ch rs gs ls)):=by
 have hn:=vF hp;unfold FJ
 by_cases hf:j4 c s.vars.length ch rs gs ls=0
 ·obtain⟨rfl,rfl⟩:=J7 hf;rw[af (by simpa using hf)]
  by_cases hi:iG (bZ s.groups) c sl s.vars ch rs=0
  ·rw[af (by simpa using hi)]
   have ho:=GL hp hb.v0 h00 h1 hf hi;have hmap:(s.eqs.map fun q=>N (mz s.groups ch rs q))=(vY s ch rs).map .s:=by unfold vY;rw[kP];rfl
   rw[hmap]at ho;have f0:vY s ch rs≠[]:=by unfold vY;simpa using h00
   have fl: ∀x∈vY s ch rs,x.length<=100000:=fun x hx=>by have:=(QC hp.g ch rs x hx).1;omega
   have fn:(vY s ch rs).length<=900:=by unfold vY;rw[aR];have:=hp.g.ne;omega
   generalize vY s ch rs=fs at*;have hc:=xW hp.r hb hx f0 fn fl;have ha:=F4 (c:=c) (sl:=sl) s B0 (aZ (iV (J8 ctx s fs) c));generalize iV (J8 ctx s fs) c=z at*;obtain⟨gq,vs,es⟩:=s;simp only[X0,Lc,cY.pv,bH]at hn ho hc ha⊢;clear hp hb h2 h3 h4 hf hi hmap
   by_cases hz:aZ z=ch
   ·rw[ah hz];have hz1:(aZ z==ch)=true:=by simpa using hz
    refine eW call127 func127 ?_;exact YY @hz1 @hn @ho @hc @ha
   ·rw[af hz];have hz1:(aZ z==ch)=false:=by simpa using hz
    refine eW call127 func127 ?_;exact YY @hz1 @hn @ho @hc @ha
  ·rw[ah hi];have ho:=GK hp hb.v0 h00 h1 hf hi;have hb:(iG (bZ s.groups) c sl s.vars ch rs==0)=false:=by simpa using hi
   generalize iG (bZ s.groups) c sl s.vars ch rs=e at*;obtain⟨gq,vs,es⟩:=s;simp only[X0,Lc,cY.pv,bH]at hn ho⊢;refine eW call127 func127 ?_;exact wq @hb @hn @ho
 ·rw[ah hf];have ho:=Kv hp.r h1 h2 h3 h4 hf (sl:=sl);have hb:(j4 c s.vars.length ch rs gs ls==0)=false:=by simpa using hf
  generalize j4 c s.vars.length ch rs gs ls=e at*;obtain⟨gq,vs,es⟩:=s;simp only[X0,Lc,cY.pv]at hn ho⊢;refine eW call127 func127 ?_;exact wq @hb @hn @ho
def oz (k:Key) (n:Bytes):Bytes:=[105,115,115,117,101,32]++k.name++[46]++n
def fz (p:cz) (k:Key) (c:Bytes):cY:=⟨[(k.m,k.o)],[p.bl,p.se],[⟨0,c,[wj k.s 0,wj (k.r.getD 0 []) 1]⟩]⟩
theorem HL (k:Key) (n:Bytes) (hk:k.name.length<=1000) (hn:n.length<=1000):aF 44 [k.pv, .s n] (.s (oz k n)):=by
 unfold Key.pv oz;refine eW call44 func44 ?_;repeat' first|simp only[go_sem,seval,bU]|refine oE ?_|apply xX<;>intro hc
 all_goals rfl
theorem HN (p:cz) (k:Key) (c:Bytes) (h0:0<k.r.length) (hl:k.r.length<1000000):aF 45 [p.pv,k.pv, .s c] (fz p k c).pv:=by
 have e1:=nB (l:=k.r) (x:=0) h0;have l1:(k.r.map PV.s).length=k.r.length:=aR ..;have hp: ∀ _:True,(0:Int)<(k.r.length:Int):=fun _=>oO
 unfold fz Key.pv cz.pv cY.pv;generalize k.r.getD 0 []=r0 at*;simp only[dS.pv,br,bH,fS.pv,wj];refine eW call45 func45 ?_;exact ot (aN @l1 (aN @e1 (hp oT))) @TD
theorem Cn {pe:Int} (h:fK pe k=0):2<=k.r.length:=by
 unfold fK at h;repeat (split at h; ·first|exact aJ h oC|(rename_i g;exact aJ h g))
 omega
theorem nE (hk:ui k) (h:cL k.m [] x=true):lf k.m k.o x=true:=by rw[hk.o];unfold lf;rw[ah (by simp)];exact h
theorem AZ (hk:ui k):gE k.m k.o=0:=by rw[hk.o,Gr];exact VS.2 hk.gd
theorem Bj (h:fB p=0):(∀x∈p.eA,aa x=true)/\ ∀x∈p.rO,2<=num x:=by
 unfold fB at h
 split at h
 ·rename_i hv
  split at h
  ·exact aJ h oC
  ·split at h
   ·exact aJ h oC
   ·rename_i ht;exact⟨bJ.1 hv,fun x hx=>DF fun g=>ht (nj.2 ⟨x,hx,by simpa using g⟩)⟩
 ·exact aJ h oC
theorem Cw (h:2<=num x):x≠[]:=by intro e;rw[e]at h;exact aJ h oC
theorem Gy (h:0<k.r.length):k.r.getD 0 []∈Gw k:=by
 simp only[Gw,bV];exact .inr (.inr (.inr (aG [] h)))
theorem xQ (hp:p.short) (hpe:fB p=0) (hk:ui k) (lm:k.m.length<=8) (h0:0<k.r.length) (hc:cL k.m [] c=true):DP p.c p.sl (fz p k c):=by
 obtain⟨hv,ht⟩:=Bj hpe;have b2:=ht p.bl (by simp[cz.rO])
 have s2:=ht p.se (by simp[cz.rO])
 have vb:=hv p.bl (by simp[cz.eA])
 have vs:=hv p.se (by simp[cz.eA])
 have lb:=hp p.bl (by simp[cz.eA])
 have ls:=hp p.se (by simp[cz.eA])
 have nb:=Cw b2;have ns:=Cw s2;have lo:k.o.length<=8:=by rw[hk.o];simp
 have gs:=nE hk hk.s;have gr:=nE hk (hk.t _ (Gy h0));have gc:=nE hk hc;refine⟨RN hp hpe,⟨⟨?_,?_,?_,?_,?_,?_⟩,?_,?_,?_,?_,?_,?_,?_⟩,?_⟩
 ·intro q hq;simp only[fz,ik]at hq;subst hq;exact⟨lm,lo⟩
 ·intro b hb;simp only[fz,bV,iu,or_false]at hb;rcases hb with rfl|rfl<;>omega
 ·intro q hq;simp only[fz,ik]at hq;subst hq;simp[wj]
 ·simp[fz]
 ·simp[fz]
 ·simp[fz]
 ·intro q hq;simp only[fz,ik]at hq;subst hq;exact⟨AZ hk,lm,lo⟩
 ·intro b hb;simp only[fz,bV,iu,or_false]at hb;rcases hb with rfl|rfl<;>exact⟨by assumption,oO⟩
 ·intro q hq;simp only[fz,ik]at hq;subst hq;refine⟨Int.le_refl _,by simp[fz],gc,by simp,fun t ht=> ?_⟩
  simp only[bV,iu,or_false]at ht;rcases ht with rfl|rfl
  ·exact⟨by simp[wj],by simp[wj,fz],gs,rfl⟩
  ·exact⟨by simp[wj],by simp[wj,fz],gr,rfl⟩
 ·simp[fz]
 ·simp[fz]
 ·simp[fz]
 ·simp[EL,fz,nb,ns]
 ·intro b hb h;simp only[fz,bV,iu,or_false]at hb;rcases hb with rfl|rfl
  ·exact aJ h nb
  ·exact aJ h ns
theorem Ea (hp:p.short) (hk:ui k) (lm:k.m.length<=8) (h0:0<k.r.length) (hc:cL k.m [] c=true):Wo (fz p k c):=by
 have lb:=hp p.bl (by simp[cz.eA])
 have ls:=hp p.se (by simp[cz.eA])
 have l1:=zr lm hk.s;have l2:=zr lm (hk.t _ (Gy h0));have l3:=zr lm hc;refine⟨⟨k.m,k.o,rfl,oO,by rw[hk.o];simp⟩,by simp[fz],by simp[fz],fun b hb=> ?_,by simp[fz],fun q hq=> ?_⟩
 ·simp only[fz,bV,iu,or_false]at hb;rcases hb with rfl|rfl<;>omega
 ·simp only[fz,ik]at hq;subst hq;refine⟨Int.le_refl _,by simp,by show c.length<=1000;omega,by simp,fun t ht=> ?_⟩
  simp only[bV,iu,or_false]at ht;rcases ht with rfl|rfl
  ·exact⟨by simp[wj],by simp[wj],by show k.s.length<=1000;omega,by simp[wj]⟩
  ·exact⟨by simp[wj],by simp[wj],by show(k.r.getD 0 []).length<=1000;omega,by simp[wj]⟩
theorem Qc (p:cz) (k:Key) (c:Bytes) {x y:Nat} (hx:x<(2^64)) (hy:y<(2^64)):WS (fz p k c) [(x:Int),(y:Int)]:=by
 have hL:=oY;intro q hq;simp only[fz,ik]at hq;subst hq;intro t ht;simp only[bV,iu,or_false]at ht;rcases ht with rfl|rfl
 ·refine⟨by simp[wj],by simp[wj],rfl,?_,?_⟩
  ·show((x:Int)).natAbs<dP;omega
  ·show(1:Nat)*((x:Int)).natAbs<dP;omega
 ·refine⟨by simp[wj],by simp[wj],rfl,?_,?_⟩
  ·show((y:Int)).natAbs<dP;omega
  ·show(1:Nat)*((y:Int)).natAbs<dP;omega
theorem Qi (x:Bytes):aF 225 [.s x] (.b (!aa x)):=by
 have hv:=aD x;refine eW call225 func225 ?_;exact z1 @hv
theorem pP (l:List Bytes) (hl:l.length<1000000):aF 141 [.sl (l.map .s)] (.b (l.all aa)):=by
 have h:=iy l _ (fun x=> !aa x) oO Qi
 rw[jD]at h;generalize l.all aa=b at*;refine eW call141 func141 ?_;repeat' first|simp only[go_sem,seval]|refine cP h ?_|refine oE ?_|apply xX<;>intro hc
 all_goals (cases b<;>rfl)
theorem nP (x:Bytes):aF 144 [.s x] (.agg [.b false, .s x]):=by
 refine eW call144 func144 ?_;exact z0
def Jv (p:cz) (i:Nat):Bytes:=if i=0 then p.se else if i=1 then p.ha else p.at'
def PM (p:cz) (l:List Bytes):Bool:=(List.range l.length).all fun i=>decide (num (l.getD i [])<num (Jv p i))
noncomputable def Cs (k:Key) (l:List Bytes):Nat:=CC (num k.m) ((k.r.map num).zip (l.map fun x=>(false,x)))
noncomputable def U4 (p:cz) (k:Key) (l:List Bytes):PV:=if l.length≠k.r.length then .tup [.s [],E 6]else if PM p l then .tup [N (Cs k l),E 0]else .tup [.s [],E 2]
theorem PN {l:List Bytes} {i:Nat} (hi:i<l.length) (h: ¬num (l.getD i [])<num (Jv p i)):PM p l=false:=by
 unfold PM;rw[dA];intro g;exact h (by simpa using bJ.1 g i (fE.2 hi))
theorem LW {l:List Bytes} (h: ∀i,i<l.length->num (l.getD i [])<num (Jv p i)):PM p l=true:=by
 unfold PM;rw[bJ];intro i hi;exact aS (h i (fE.1 hi))
theorem U6 {p:cz} (hk:ui k) (lm:k.m.length<=8) (lr:k.r.length<=20) {l:List Bytes} (hl:l.length=k.r.length) (hv:l.all aa=true):aF 42 [G k.m k.o, .sl (k.r.map .s), .sl (l.map lz)] (.tup [N (Cs k l),E 0]):=by
 have hE:=AZ hk;have lo:k.o.length<=8:=by rw[hk.o];simp
 have hr: ∀x∈k.r,aa x=true/\GP k.m k.o (num x):=fun x hx=>(eY hE).1 (nE hk (hk.t x (by simp only[Gw,bV];exact .inr (.inr (.inr hx)))))
 have h:=sD lm lo hE (xs:=k.r.map num) (es:=l.map fun x=>(false,x)) (fun y hy=>by obtain⟨x,hx,rfl⟩:=cG.1 hy;exact(hr x hx).2) (fun y hy=>by obtain⟨x,hx,rfl⟩:=cG.1 hy;simp[dh,bJ.1 hv x hx]) (by simp[hl]) (by rw[aR];omega)
 rw[kP,kP]at h;rw[show k.r.map (vW∘num)=k.r.map PV.s from qA fun x hx=>eT (hr x hx).1]at h
 exact h
theorem BQ (hp:p.short) (hpe:fB p=0) (hk:ui k) (lm:k.m.length<=8) (hr2:2<=k.r.length) (lr:k.r.length<=20) {l:List Bytes} (hl:l.length<1000000) (hv:l.all aa=true):aF 142 [p.pv,k.pv, .sl (l.map .s)] (U4 p k l):=by
 obtain⟨hpv,hpt⟩:=Bj hpe;have vse:=hpv p.se (by simp[cz.eA])
 have vha:=hpv p.ha (by simp[cz.eA])
 have vat:=hpv p.at' (by simp[cz.eA])
 have l1:(l.map PV.s).length=l.length:=aR ..;have l2:(k.r.map PV.s).length=k.r.length:=aR ..;unfold U4
 by_cases h6:l.length=k.r.length
 case neg=>
  rw[ah h6];have hb:((l.length:Int) !=(k.r.length:Int))=true:=by rw[tZ];omega
  clear hk;unfold cz.pv Key.pv at*;refine eW call142 func142 ?_;exact oo (aN @l1 (aN @l2 @hb))
 rw[af (by simpa using h6)]
 have hb:((l.length:Int) !=(k.r.length:Int))=false:=by rw[h6];simp
 have hM:=U6 (p:=p) hk lm lr h6 hv;have hpos:0<l.length:=oO;have hRow:dq lz 2:=XB;have hbadA: ∀i,i<l.length->num (Jv p i)<=num (l.getD i [])->PM p l=false:=fun i hi h=>PN hi oO
 generalize Cs k l=mv at*;clear hk;unfold cz.pv Key.pv at*;refine eW call142 func142 ?_;refine fq (aN @l1 (aN @l2 @hb)) ?_;refine aj ?_;have e1:=nB hpos;have vx:aa (l.getD 0 [])=true:=bJ.1 hv _ (aG [] hpos);have c1:=jZ vx (vse);have hcg:=O9 (num (l.getD 0 [])) (num p.se);have i1:=nP (l.getD 0 []);have hb0:=hbadA 0 hpos;have t0:l.take 1=[l.getD 0 []]:=aY [] hpos;have a0:Jv p 0=p.se:=rfl;rw[a0]at hb0;obtain⟨x0,hx0⟩: ∃x0,x0=l.getD 0 []:=⟨_,rfl⟩;rw[<-hx0]at e1 vx c1 hcg i1 hb0 t0;have hP0:decide (num x0<num p.se)=true-> ∀j,j<1->num (l.getD j [])<num (Jv p j):=fun h j hj=>by
  obtain rfl:j=0:=oO;rw[<-hx0];simpa[Jv]using h
 clear hx0;generalize bK (num x0) (num p.se)=cm at*
 cases hd:decide (num x0<num p.se)with
 |false=>
  rw[hd]at hcg;rw[hb0 (by simpa using hd)]
  exact ot (aN @l1 (aN @e1 @hcg)) @c1
 |true=>
 rw[hd]at hcg;have hP0:=hP0 hd;clear hd hb0;refine zS (aN @l1 (aN @e1 @hcg)) @c1 @i1 ?_;clear e1 vx c1 hcg i1;refine aq (α:=Nat) (fun j=>l.length-j) (fun j=>⟨[(4, .p 1001 0 0),(8, .p 1017 0 0),(9, .rs 1040 j 0 (j+1) 2),(25, .v (.sl (l.map .s))),(26,E' l.length),(27,E' (j+1))],[(1001,⟨0,[.v (.s k.name), .v (.s k.m), .v (.s k.o), .v (.s k.z), .v (.s k.s), .v (.sl (k.r.map .s)), .v (.s k.u), .v (.s k.h)],false,none⟩),(1017,⟨0,[.v (.s p.se), .v (.s p.ha), .v (.s p.at')],false,some 274⟩),(1040,⟨j,bI lz (l.take (j+1)),true,some 94⟩)],1044⟩) (fun j=>j+1<=l.length/\ ∀i,i<j+1->num (l.getD i [])<num (Jv p i)) 0 (fun _=>fk rfl) ⟨oO,hP0⟩ ?_ ?_
 ·simp only[fG,t0]
  (refine AS.Le.of (by first|decide|omega) ?_ ?_<;>simp[dG,dF,aO,hget,AV.bd,AV.bd.bdL,u8,ar,au,az])
  all_goals first|omega|exact⟨rfl,fun c hc=>cf hc⟩|exact fun c hc=>cf hc
 ·clear t0 hP0;rintro j ⟨hj,hall⟩ R hR;have hlm:(l.take (j+1)).length=j+1:=by rw[da];omega
  have q1:=dw hRow (l.take (j+1));have q2:=eD hRow (l.take (j+1));rw[hlm]at q1 q2
  by_cases hlt:j+1<l.length
  ·have hgo:=fun h=>hR (j+1) ⟨oO,h⟩ oO
   have ts:=aY ([]:Bytes) hlt;have hrs:bI lz (l.take (j+1+1))=bI lz (l.take (j+1))++[.v (.b false), .v (.s (l.getD (j+1) []))]:=by rw[ts,Q3]
   simp only[hrs]at hgo;have hb1:=hbadA (j+1) hlt;have hgo2:num (l.getD (j+1) [])<num (Jv p (j+1))-> ∀i,i<j+1+1->num (l.getD i [])<num (Jv p i):=fun h i hi=>by
    by_cases e:i=j+1
    ·rw[e];exact h
    ·exact hall i oO
   clear hR ts hrs hlm hall hbadA
   by_cases hj0:j=0
   ·subst hj0;have a1:Jv p (0+1)=p.ha:=rfl;rw[a1]at hb1 hgo2;have e1:=nB hlt;have vx:aa (l.getD (0+1) [])=true:=bJ.1 hv _ (aG [] hlt);have c1:=jZ vx (vha);have hcg:=O9 (num (l.getD (0+1) [])) (num p.ha);have i1:=nP (l.getD (0+1) []);generalize l.getD (0+1) []=x0 at*;generalize bK (num x0) (num p.ha)=cm at*
    cases hd:decide (num x0<num p.ha)with
    |false=>
     rw[hd]at hcg;rw[hb1 (by simpa using hd)]
     clear hgo hgo2;exact ot (aN @l1 (aN @e1 @hcg)) @c1
    |true=>
     rw[hd]at hcg;have hgo:=hgo (hgo2 (by simpa using hd))
     clear hgo2 hb1;refine zS (aN @l1 (aN @e1 (aN @hcg (aN @q1 @q2)))) @c1 @i1 ?_;refine hgo _ ?_
     (refine AS.Le.of (by first|decide|omega) ?_ ?_<;>simp[dG,dF,aO,hget,AV.bd,AV.bd.bdL,u8,ar,au,az])
     all_goals first|omega|exact fun c hc=>by rcases hc with hc|rfl|rfl<;>first|exact cf hc|rfl
   ·have a1:Jv p (j+1)=p.at':=by unfold Jv;rw[af oO,af oO]
    rw[a1]at hb1 hgo2;have hmin: ∀ _:True,(if(2:Int)<((j+1:Nat):Int)then(2:Int)else((j+1:Nat):Int))=2:=fun _=>by split<;>omega
    have h2t:(2:Int).toNat=2:=rfl;have e1:=nB hlt;have vx:aa (l.getD (j+1) [])=true:=bJ.1 hv _ (aG [] hlt);have c1:=jZ vx (vat);have hcg:=O9 (num (l.getD (j+1) [])) (num p.at');have i1:=nP (l.getD (j+1) []);generalize l.getD (j+1) []=x0 at*;generalize bK (num x0) (num p.at')=cm at*
    cases hd:decide (num x0<num p.at')with
    |false=>
     rw[hd]at hcg;rw[hb1 (by simpa using hd)]
     clear hgo hgo2;exact ot (aN @l1 (aN @e1 (aN @hcg (aN (hmin oT) @h2t)))) @c1
    |true=>
     rw[hd]at hcg;have hgo:=hgo (hgo2 (by simpa using hd))
     clear hgo2 hb1;refine zS (aN @l1 (aN @e1 (aN @hcg (aN @q1 (aN @q2 (aN (hmin oT) @h2t)))))) @c1 @i1 ?_;refine hgo _ ?_
     (refine AS.Le.of (by first|decide|omega) ?_ ?_<;>simp[dG,dF,aO,hget,AV.bd,AV.bd.bdL,u8,ar,au,az])
     all_goals first|omega|exact fun c hc=>by rcases hc with hc|rfl|rfl<;>first|exact cf hc|rfl
  ·have hjl:j+1=l.length:=oO;have hg:PM p l=true:=LW fun i hi=>hall i oO
   rw[hg,ah rfl];have hT:l.take (j+1)=l:=dc oO;rw[hT]at q1 q2;rw[hT,hjl];rw[hjl]at q1 q2;have q3:=gH hRow l;have q4:=eC hRow l;clear hR hall hbadA hlm;repeat' first|simp only[go_sem,seval,l1,q1,q2,q3,q4,gI]|(refine pJ (l:=l) (g:=lz) (ver:=j) (gr:=true) (el:=some 94) hM hRow rfl (by simp[hget]) rfl ?_)|refine oE ?_|apply xX<;>intro hc
   all_goals rfl
def Uj (x lo sz:Bytes):Bool:=decide (num lo<=num x)&&decide (num x-num lo<num sz)
noncomputable def RY (k:Key) (l:List Bytes) (A X V:Bytes):Nat:=CC (num k.m) [(num A,(false,X)),(num k.s,(false,V)),(Cs k l,(false,[1]))]
noncomputable def Ll (p:cz) (k:Key) (l:List Bytes) (A X V:Bytes):Int:=
 if fK (fB p) k≠0 then fK (fB p) k else if !(l.all aa)|| !([A,X,V].all aa)then 3 else if l.length≠k.r.length then 6 else if !PM p l then 2 else if !Uj X p.el p.es||(decide (num p.bl<=num V)&& !Uj V p.bl p.bl)then 2 else if dK X≠0 then dK X else if !eZ (num X)then 12 else if !cL k.m [] A then 13 else if decide (RY k l A X V=num k.z)then 0 else 19
theorem U5 (hk:ui k) (l:List Bytes):GP k.m k.o (Cs k l):=by
 have hE:=AZ hk;obtain⟨-,-,m1,-,-⟩:=qJ hE;have hr: ∀x∈k.r,GP k.m k.o (num x):=fun x hx=>((eY hE).1 (nE hk (hk.t x (by simp only[Gw,bV];exact .inr (.inr (.inr hx)))))).2
 unfold Cs;generalize k.r=rs at hr;have h: ∀(rs:List Bytes) (es:List (Bool×Bytes)),(∀x∈rs,GP k.m k.o (num x))->GP k.m k.o (CC (num k.m) ((rs.map num).zip es)):=by
  intro rs
  induction rs with
  |nil=>intro es _;simp only[bH,List.zip_nil_left,CD];rw[bM m1];exact⟨m1,Nat.gcd_one_left _, .inr (by rw[lO])⟩
  |cons x rs ih=>
   intro es hx
   cases es with
   |nil=>simp only[List.zip_nil_right,CD];rw[bM m1];exact⟨m1,Nat.gcd_one_left _, .inr (by rw[lO])⟩
   |cons e es=>
    rw[br,List.zip_cons_cons,pW];exact((hx x (.head _)).dU m1 _ _).mul (ih es fun y hy=>hx y (.tail _ hy))
 exact h rs _ hr
theorem vS (va:aa a=true) {n:Nat}:aa (aZ (num a-n))=true:=kx (dD (Nat.sub_le _ _) (ba (cu a) (cW oC (eu va))))
theorem Xf (vx:aa x=true) (v:Nat):(aZ v==x)=decide (v=num x):=by
 rw[cI,bc,dZ];constructor
 ·intro h;rw[<-h,aP]
 ·intro h;rw[h];exact eU vx
theorem Yg {b:Bytes} (va:aa a=true) (vb:aa b=true):CO a b=if num b<=num a then(aZ (num a-num b),0)else([],2):=by
 unfold CO;rw[va,vb];rfl
theorem V9 (hk:ui k) (lm:k.m.length<=8) (l:List Bytes) {A X V:Bytes} (hA:cL k.m [] A=true) (vX:aa X=true) (vV:aa V=true):aF 42 [G k.m k.o, .sl [.s A, .s k.s,N (Cs k l)], .sl [.agg [.b false, .s X], .agg [.b false, .s V], .agg [.b false, .s [1]]]] (.tup [N (RY k l A X V),E 0]):=by
 have hE:=AZ hk;have lo:k.o.length<=8:=by rw[hk.o];simp
 obtain⟨vs,gs⟩:=(eY hE).1 (nE hk hk.s);obtain⟨va,ga⟩:=(eY hE).1 (nE hk hA);have gm:=U5 hk l;have h:=sD lm lo hE (xs:=[num A,num k.s,Cs k l]) (es:=[(false,X),(false,V),(false,[1])]) (by intro y hy;simp only[bV,iu,or_false]at hy;rcases hy with rfl|rfl|rfl<;>assumption) (by intro y hy;simp only[bV,iu,or_false]at hy;rcases hy with rfl|rfl|rfl<;>first|(simp[dh,vX];done)|(simp[dh,vV];done)|rfl) rfl (by simp)
 simp only[br,bH,vW,eT vs,eT va]at h;exact h
theorem Ee (hp:p.short) (lm:k.m.length<=8) (ln:k.name.length<=60) (lr:k.r.length<=20) (l:List Bytes) (hl:l.length<1000000) (A X V:Bytes):aF 74 [p.pv,k.pv, .sl (l.map .s), .agg [.s A, .s X, .s V]] (E (Ll p k l A X V)):=by
 have hck:=mT p k _ (nV p hp) lm ln lr;have f1:=pP l hl;have f2:=pP [A,X,V] (by simp)
 simp only[br,bH]at f2;unfold Ll
 by_cases hke:fK (fB p) k=0
 case neg=>
  rw[ah hke];have hb2:(fK (fB p) k !=0)=true:=by simpa using hke
  generalize fK (fB p) k=e at*;unfold cz.pv Key.pv at*;refine eW call74 func74 ?_;exact ot @hb2 @hck
 rw[af (by simpa using hke)]
 rw[hke]at hck
 cases hv:l.all aa with
 |false=>
  rw[hv]at f1;simp only[db,qG,aA];unfold cz.pv Key.pv at*;refine eW call74 func74 ?_;exact z2 @hck @f1
 |true=>
 cases hg:[A,X,V].all aa with
 |false=>
  rw[hv]at f1;rw[hg]at f2;simp only[db,Bool.or_true,aA];unfold cz.pv Key.pv at*;refine eW call74 func74 ?_;exact z4 @hck @f1 @f2 oT
 |true=>
 rw[hv]at f1;rw[hg]at f2;simp only[cQ,Bool.or_self,bQ,ak];simp only[List.all_cons,List.all_nil,js,aV]at hg;obtain⟨vA,vX,vV⟩:=hg;obtain⟨hpe,hkf⟩:=mU hke;have hr2:=Cn hke;obtain⟨hpv,hpt⟩:=Bj hpe;have vel:=hpv p.el (by simp[cz.eA])
 have ves:=hpv p.es (by simp[cz.eA])
 have vbl:=hpv p.bl (by simp[cz.eA])
 have hm:=BQ hp hpe hkf lm hr2 lr hl hv;unfold U4 at hm
 by_cases h6:l.length=k.r.length
 case neg=>
  rw[ah h6]at hm;rw[ah h6];clear hkf;unfold cz.pv Key.pv at*;refine eW call74 func74 ?_;exact z4 @hck @f1 @f2 @hm
 rw[af (by simpa using h6)]at hm⊢
 cases ha:PM p l with
 |false=>
  rw[ha]at hm;simp only[bQ,ak,db,aA]at hm⊢;clear hkf;unfold cz.pv Key.pv at*;refine eW call74 func74 ?_;exact z4 @hck @f1 @f2 @hm
 |true=>
 rw[ha]at hm;simp only[aA,cQ,bQ,ak]at hm⊢;have s1:=BJ X p.el;rw[Yg vX vel]at s1;have s2:=BJ V p.bl;rw[Yg vV vbl]at s2;have c1:num p.el<=num X->aF 39 [N (num X-num p.el), .s p.es] (E (bK (num X-num p.el) (num p.es))):=fun _=>by
  have h:=jZ (x:=aZ (num X-num p.el)) (y:=p.es) (vS vX) ves
  rwa[aP]at h
 have c2:num p.bl<=num V->aF 39 [N (num V-num p.bl), .s p.bl] (E (bK (num V-num p.bl) (num p.bl))):=fun _=>by
  have h:=jZ (x:=aZ (num V-num p.bl)) (y:=p.bl) (vS vV) vbl
  rwa[aP]at h
 have g1:=O9 (num X-num p.el) (num p.es);have g2:=O9 (num V-num p.bl) (num p.bl);have h3:=qm X;have h4:=zf lm A;have h5:=fun hA=>V9 hkf lm l (A:=A) (X:=X) (V:=V) hA vX vV
 have i1:=nP X;have i2:=nP V;have i3:=nP [1];have hz:=(eY (AZ hkf)).1 (nE hkf (hkf.t k.z (by simp[Gw])))
 have hzz:=Xf hz.1 (RY k l A X V);have ho:=hkf.o;rw[vX,cB]at h3;have e8:dK X=if X.length<=8 then 0 else 5:=by unfold dK;rw[vX];rfl
 rw[e8]at h3⊢;unfold Uj;generalize bK (num X-num p.el) (num p.es)=cm1 at*;generalize bK (num V-num p.bl) (num p.bl)=cm2 at*;generalize num X-num p.el=d1 at*;generalize num V-num p.bl=d2 at*;generalize eZ (num X)=bm at*;generalize RY k l A X V=sv at*;generalize Cs k l=mv at*;generalize cL k.m [] A=bA at*;clear hkf hz hke h6 ha hv;obtain⟨name,m,o,z,s,r,u,hh⟩:=k;simp only at*;subst ho
 by_cases x1:num p.el<=num X
 case neg=>
  rw[af x1]at s1;rw[b9 x1,fp,db,qG,ah rfl];unfold cz.pv Key.pv at*;refine eW call74 func74 ?_;exact z7 @hck @f1 @f2 @hm @s1 oT oT
 rw[ah x1]at s1;have c1:=c1 x1;rw[aS x1,cB]
 cases x2:decide (d1<num p.es)with
 |false=>
  rw[x2]at g1;rw[db,qG,ah rfl];unfold cz.pv Key.pv at*;refine eW call74 func74 ?_;exact Wy @g1 @hck @f1 @f2 @hm @s1 @c1 oT
 |true=>
 rw[x2]at g1;rw[cQ,kE]
 by_cases x3:num p.bl<=num V/\ ¬d2<num p.bl
 case pos=>
  rw[ah x3.1]at s2;have c2:=c2 x3.1;rw[b9 x3.2]at g2;rw[aS x3.1,b9 x3.2,ah (show(true&& !(true&&false))=true from rfl)]
  unfold cz.pv Key.pv at*;refine eW call74 func74 ?_;exact O3 (aN @g1 @g2) @hck @f1 @f2 @hm @s1 @c1 @s2 @c2 oT oT oT oT
 have hx3:(decide (num p.bl<=num V)&& !(decide (num p.bl<=num V)&&decide (d2<num p.bl)))=false:=by
  rw[dA];intro g;simp at g;exact x3 ⟨g.1,oO⟩
 rw[hx3,af (by simp)]
 by_cases x5:X.length<=8
 case neg=>
  rw[af x5]at h3⊢;rw[b9 x5,fp]at h3;rw[ah oC]
  by_cases x4:num p.bl<=num V
  ·rw[ah x4]at s2;have c2:=c2 x4;rw[aS (show d2<num p.bl from Classical.byContradiction fun g=>x3 ⟨x4,g⟩)]at g2
   unfold cz.pv Key.pv at*;refine eW call74 func74 ?_;exact O3 (aN @g1 @g2) @hck @f1 @f2 @hm @s1 @c1 @s2 @c2 @h3 oT oT oT
  ·rw[af x4]at s2;unfold cz.pv Key.pv at*;refine eW call74 func74 ?_;exact O3 @g1 @hck @f1 @f2 @hm @s1 @c1 @s2 @h3 oT oT oT oT
 rw[ah x5]at h3⊢;rw[aS x5,cB]at h3;rw[af oC]
 by_cases x4:num p.bl<=num V
 ·rw[ah x4]at s2;have c2:=c2 x4;rw[aS (show d2<num p.bl from Classical.byContradiction fun g=>x3 ⟨x4,g⟩)]at g2
  cases bm<;>cases bA
  case true.true=>
   have h5:=h5 rfl;simp only[cQ,bQ,ak];unfold cz.pv Key.pv at*;generalize decide (sv=num z)=bz at*;refine eW call74 func74 ?_;repeat' first|simp only[go_sem,seval,g1,g2,cQ,db,bne,hzz]|refine cP hck ?_|refine cP f1 ?_|refine cP f2 ?_|refine cP hm ?_|refine cP s1 ?_|refine cP c1 ?_|refine cP s2 ?_|refine cP c2 ?_|refine cP h3 ?_|refine cP h4 ?_|refine cP i1 ?_|refine cP i2 ?_|refine cP i3 ?_|refine cP h5 ?_|refine oE ?_|apply xX<;>intro hc
   all_goals (cases bz<;>simp_all)
  all_goals
   simp only[cQ,db,bQ,ak,aA];unfold cz.pv Key.pv at*;refine eW call74 func74 ?_;exact O3 (aN @g1 @g2) @hck @f1 @f2 @hm @s1 @c1 @s2 @c2 @h3 @h4 oT oT
 ·rw[af x4]at s2
  cases bm<;>cases bA
  case true.true=>
   have h5:=h5 rfl;simp only[cQ,bQ,ak];unfold cz.pv Key.pv at*;generalize decide (sv=num z)=bz at*;refine eW call74 func74 ?_;repeat' first|simp only[go_sem,seval,g1,cQ,db,bne,hzz]|refine cP hck ?_|refine cP f1 ?_|refine cP f2 ?_|refine cP hm ?_|refine cP s1 ?_|refine cP c1 ?_|refine cP s2 ?_|refine cP h3 ?_|refine cP h4 ?_|refine cP i1 ?_|refine cP i2 ?_|refine cP i3 ?_|refine cP h5 ?_|refine oE ?_|apply xX<;>intro hc
   all_goals (cases bz<;>simp_all)
  all_goals
   simp only[cQ,db,bQ,ak,aA];unfold cz.pv Key.pv at*;refine eW call74 func74 ?_;exact O3 @g1 @hck @f1 @f2 @hm @s1 @c1 @s2 @h3 @h4 oT oT oT
theorem FH {s:cY} {w:List Int} {rs:List Int} {j:Nat}: ∀{n i:Nat},qM c sl ctx s w vs sd n i= .ok (ch,rs,j)-> ∃ms z,z=iV (J8 ctx s (sG s ms)) c/\ch=aZ z/\rs=fR (bZ s.groups) s.vars ms w z/\Cj (bZ s.groups) c sl s.vars rs=true
 |0,i,h=>by cases h
 |n+1,i,h=>by
  rw[qM]at h
  split at h
  ·cases h
  ·rename_i ms hms
   split at h
   ·rename_i hin;simp only[Except.ok.injEq,dJ]at h;obtain⟨rfl,rfl,-⟩:=h;exact⟨ms,_,rfl,rfl,rfl,hin⟩
   ·exact FH h
theorem KE (m x:Nat) (z:Int):dU m x (jB z).1 (num (jB z).2)=gW m x z:=by
 simp only[jB,uK,zs];rfl
theorem KF (m x z:Nat):dU m x (!(aZ z==[])) (num (aZ z))=gW m x (-(z:Int)):=by
 have e:(!(aZ z==([]:Bytes)))=decide (-(z:Int)<0):=by
  rw[cI];simp[gR];omega
 rw[e,aP];unfold gW;congr 1;omega
theorem NY {m x:Nat} {n:Bool} (h:dh (n,a)=true):dU m x n (num a)=gW m x (DS (n,a)):=by
 simp only[dh,aV,dC]at h;have e:DS (n,a)=if n then-(num a:Int)else num a:=rfl
 rw[e];cases n
 ·simp only[bQ,ak];unfold gW;congr 1
 ·simp only[aA];have h2:a≠[]:=by simpa using h.2
  have:=oI (bY h.1) h2;unfold gW;congr 1
  ·symm;exact aS oO
  ·omega
theorem QP {gs:List (Bytes×Bytes)} {w:List Int} {q:dS}:Lu gs w q=y7 (num (gs.getD q.jA.toNat iC).1) (q.terms.map fun t=>(num t.base,tz w t)):=by
 unfold Lu;have:=Rp (m:=num (gs.getD q.jA.toNat iC).1) (q.terms.map fun t=>(num t.base,tz w t)) (fun p=>(p.1,jB p.2)) (fun p=>rfl)
 rw[kP]at this;exact this
theorem NT: ∀{gs:List (Bytes×Bytes)} {q:Bytes},gs.any (Kq q)=false-> ∀g∈gs,g.2≠[]->g.2=q:=by
 intro gs q h g hg h0;have:=wP.1 h g hg;simp only[Kq,aV,dC,dY,ne_eq,not_and,Decidable.not_not]at this;exact this h0
theorem Uw {s:cY} (hp:DP c sl s) {w ms:List Int} {z:Nat} {q:dS} (hq:q∈s.eqs) (ht:Lu s.groups w q=num q.tgt):mz s.groups (aZ z) ((fR (bZ s.groups) s.vars ms w z).map jB) q=Lu s.groups ms q:=by
 have hs:=hp.g;obtain⟨q1,q2,q3,q4,q5⟩:=hs.q q hq;have hg:=hs.g _ (aG iC (show q.jA.toNat<s.groups.length by omega))
 have hgm:=aG iC (show q.jA.toNat<s.groups.length by omega)
 rw[QP]at ht⊢;unfold mz;obtain⟨g,hgg⟩: ∃g,g=s.groups.getD q.jA.toNat iC:=⟨_,rfl⟩;rw[<-hgg]at hg hgm q3 q5 ht⊢;obtain⟨m,o⟩:=g;simp only at hg q3 q5 ht⊢;obtain⟨vm,vo,m1,-,hoq⟩:=qJ hg.1;have hm0:0<num m:=oO;have hu: ∀t∈q.terms,GP m o (num t.base):=fun t ht=>((eY hg.1).1 (q5 t ht).2.2.1).2
 have hr: ∀t∈q.terms,gW (num m) (num t.base) (tz (fR (bZ s.groups) s.vars ms w z) t)=gW (num m) (num t.base) (tz ms t+z*tz w t):=by
  intro t ht';obtain⟨t1,t2,-,-⟩:=q5 t ht';have hv:t.var.toNat<s.vars.length:=oO;have hG:=hu t ht';unfold tz;rw[zA hv];unfold iS;split
  ·rename_i hb;have hk:=hs.k;have ha:(s.vars.any fun b=>b==[])=true:=nj.2 ⟨_,aG [] hv,by rw[hb];rfl⟩
   unfold EL at hk;rw[ha]at hk;simp only[cQ,kE,aV,dC]at hk;obtain⟨⟨hk1,hk2⟩,hk3⟩:=hk;have hbq:=bJ.1 hk3 q hq;unfold Mc at hbq;rw[<-hgg]at hbq;simp only at hbq;have hmt:q.terms.any (EO s.vars)=true:=nj.2 ⟨t,ht',by unfold EO;rw[hb];rfl⟩
   rw[hmt,js]at hbq;have ho:o≠[]:=by simpa using hbq
   have hoq:=NT hk2 (m,o) hgm ho;simp only at hoq;rw[<-hoq];have hord:=hG.ord.resolve_left ho;refine NW hG.unit hm0 hord ⟨-(DS (t.neg,t.abs)*((ms.getD t.var.toNat 0+z*w.getD t.var.toNat 0)/num o)),?_⟩;have:=Int.mul_ediv_add_emod (ms.getD t.var.toNat 0+z*w.getD t.var.toNat 0) (num o);have e:(ms.getD t.var.toNat 0+z*w.getD t.var.toNat 0)%num o=(ms.getD t.var.toNat 0+z*w.getD t.var.toNat 0)-num o*((ms.getD t.var.toNat 0+z*w.getD t.var.toNat 0)/num o):=oO;rw[e]
   grind
  ·congr 1
   grind
 have hL:=Oi (m:=num m) (fun t:fS=>num t.base) hm0 (l:=q.terms) (fun t ht=>(hu t ht).unit) (tz w) (tz ms) (tz (fR (bZ s.groups) s.vars ms w z)) z hr
 rw[ht]at hL;rw[<-hL,KF];rw[<-N0 (fun t:fS=>num t.base) hm0 _ _ (E4 _ _ _)]
 have key: ∀(l:List fS) (x:Nat),(∀t∈l,t∈q.terms)->l.foldl (uH (num m) ((fR (bZ s.groups) s.vars ms w z).map jB)) x=l.foldl (fun y t=>y*gW (num m) (num t.base) (tz (fR (bZ s.groups) s.vars ms w z) t)%num m) x:=by
  intro l
  induction l with
  |nil=>intro x _;rfl
  |cons t l ih=>
   intro x hl;rw[List.foldl_cons,List.foldl_cons,ih _ fun t h=>hl t (.tail _ h)]
   have ht':=hl t (.head _);obtain⟨t1,t2,-,t4⟩:=q5 t ht';congr 1;unfold uH;have hget:((fR (bZ s.groups) s.vars ms w z).map jB).getD t.var.toNat lU=jB ((fR (bZ s.groups) s.vars ms w z).getD t.var.toNat 0):=by
    have hlen:t.var.toNat<(fR (bZ s.groups) s.vars ms w z).length:=by rw[sS];omega
    simp[bR,hlen]
   rw[hget,KE,NY t4,nW (hu t ht').unit hm0];rfl
 exact key q.terms _ fun t h=>h
theorem Uv {s:cY} (hp:DP c sl s) {w:List Int} (hh:yn s w=true) {a:Int} {rs:List Int} {j:Nat} (h:qL c sl ctx s w vs sd a= .ok (ch,rs,j)):FJ c sl ctx s ch (rs.map jB) [] []=0:=by
 unfold qL at h
 split at h
 ·cases h
 obtain⟨ms,z,hz,rfl,hrs,hin⟩:=FH h;have hc:=hp.r;have hc2:=hc.c2;have hzc:z<num c:=by rw[hz];exact BC _ oO
 have hlc:=cU hc.lc;have hrl:rs.length=s.vars.length:=by rw[hrs];exact sS ..
 have hov:=fM hp.g.g;have hall: ∀i,i<s.vars.length->je (s.vars.getD i []) (rs.getD i 0) (lR (bZ s.groups) c sl (s.vars.getD i []))=true:=fun i hi=>bJ.1 hin i (fE.2 hi)
 have hLI: ∀x∈rs,x.natAbs<dP:=fun x hx=>by
  obtain⟨i,hi,rfl⟩:=iv hx;have:=hall i oO;simp only[je,aV,bc]at this;have h2:=Ij hc hov.2 (hp.g.v _ (aG [] (show i<s.vars.length by omega))).2
  have h3:rs.getD i 0=rs[i]:=by simp[bR,hi]
  rw[h3]at this;omega
 have hok:(rs.map jB).all dh=true:=by
  rw[bJ];intro x hx;obtain⟨y,hy,rfl⟩:=cG.1 hx;exact rz (hLI y hy)
 have a1:aa (aZ z)=true:=vN oO;have hfm:vY s (aZ z) (rs.map jB)=sG s ms:=by
  unfold vY sG;refine qA fun q hq=> ?_
  rw[hrs];refine congrArg aZ (Uw hp hq ?_);have h3:=of_decide_eq_true hh;unfold sG at h3;have h4:=List.map_eq_map_iff.1 h3 q hq;rw[<-h4,aP]
 have f1:j4 c s.vars.length (aZ z) (rs.map jB) [] []=0:=by
  unfold j4;rw[a1,hok,af (by simp),af (by simp[hrl]),af (by rw[aP];omega)]
 have f2:iG (bZ s.groups) c sl s.vars (aZ z) (rs.map jB)=0:=by
  have f3:GI (bZ s.groups) c sl s.vars (rs.map jB)=true:=Bi fun i hi=>by
   have hg:(rs.map jB).getD i lU=jB (rs.getD i 0):=by
    have:i<rs.length:=oO;simp[bR,this]
   rw[hg];have:=hall i hi;simp only[je,aV,bc,dC,Dy,kS]at this;simp only[BM,jB,uK,zs,aV,bc,dC,Dy,dY,kS];exact this
  unfold iG;rw[a1,hok,f3,af (by simp),af (by rw[aP];omega),af (by simp[hrl]),af (by simp)]
 unfold FJ;rw[af (by rw[f1];simp),af (by rw[f2];simp),hfm,<-hz,ah rfl]
