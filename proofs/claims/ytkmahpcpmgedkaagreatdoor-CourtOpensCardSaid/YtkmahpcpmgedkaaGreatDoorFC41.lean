/- Part of the proof. -/
import Derived.Test.YtkmahpcpmgedkaaGreatDoorFC40
set_option linter.all false
set_option maxHeartbeats 16000000
set_option maxRecDepth 100000
namespace Go.Proofs.Tryz
open Go Go.Dom Go.Num
variable {c ch ctx o sl:Bytes} {gs vs:List Bytes} {ls:List (List (Bool×Bytes))} {rs:List (Bool×Bytes)}
def sQ (b:Bytes) (x:Bool×Bytes) (L:Nat):Bool:=decide (num x.2<L)&& !(b==[]&&x.1)
theorem OG (b:Bytes) {n:Bool} {a:Bytes} (va:aa a=true) {L:Nat} (hL:L<dZ):aE 391 [cO b,N L, .agg [.b n, .s a]] (.b (sQ b (n,a) L)):=by
 have hc:=sY (vw va) hL;rw[eH va]at hc;have hd: ∀ _:True,decide (bc (num a) L<0)=decide (num a<L):=fun _=>by rw[ew];simp only[cK];exact fM
 generalize bc (num a) L=cm at*;unfold cO sQ;simp only;generalize decide (num a<L)=p at*;generalize hb:(b==([]:Bytes))=q at*
 cases p<;>cases q<;>cases n<;>
 ·refine eW call391 func391 ?_;exact m9 (aN @hb (hd oT)) @hc
def E6 (o c sl:Bytes) (vs:List Bytes) (l:List (Bool×Bytes)):Bool:=(List.range vs.length).all fun i=>sQ (vs.getD i []) (l.getD i fU) (lR o c sl (vs.getD i []))
def eA (o c sl:Bytes) (vs:List Bytes) (ch:Bytes) (l:List (Bool×Bytes)):Int:=
 if !(aa ch&&l.all cz)then 3 else if num c<=num ch then 2 else if l.length≠vs.length then 6 else if !E6 o c sl vs l then 2 else 0
noncomputable def kH (c sl:Bytes) (s:cU) (ch:Bytes) (l:List (Bool×Bytes)):List PV:=
 if eA (bM s.groups) c sl s.vars ch l=0 then s.eqs.map fun q=>N (gG s.groups ch l q)else[]
theorem E7 {l:List (Bool×Bytes)} {i:Nat} (hi:i<vs.length) (h: ¬sQ (vs.getD i []) (l.getD i fU) (lR o c sl (vs.getD i []))=true):E6 o c sl vs l=false:=by
 unfold E6;rw[fz];intro g;exact h (bH.1 g i (dW.2 hi))
theorem vC {l:List (Bool×Bytes)} (h: ∀i,i<vs.length->sQ (vs.getD i []) (l.getD i fU) (lR o c sl (vs.getD i []))=true):E6 o c sl vs l=true:=by
 unfold E6;rw[bH];intro i hi;exact h i (dW.1 hi)
theorem I8 {s:cU} (hp:As c sl s) (h1:s.eqs≠[]) {l:List (Bool×Bytes)} (hll:l.length<1000000):aE 289 [.agg [.s c, .s sl],s.pv, .s ch, .sl (l.map cT)] (.tup [.sl (kH c sl s ch l),E (eA (bM s.groups) c sl s.vars ch l)]):=by
 have hr:=hp.r;have hs:=hp.g;have hb:=FF hp;have lo:=(fa hs.g).2;clear hp;have vh:=aT ch;have hi:=OP l hll;have l5:(l.map cT).length=l.length:=aC ..;have l2:(s.vars.map cO).length=s.vars.length:=aC ..;have l6:(s.vars.map fun b=>N (lR (bM s.groups) c sl b)).length=s.vars.length:=aC ..
 have nv:=hs.nv
 by_cases g1:aa ch=true/\l.all cz=true
 case neg=>
  have e:(aa ch&&l.all cz)=false:=by rw[fz];intro g;simp at g;exact g1 ⟨g.1,by simpa[bH]using g.2⟩
  have e2:eA (bM s.groups) c sl s.vars ch l=3:=by simp only[eA,e];rfl
  rw[kH,ae (by rw[e2];decide),e2]
  clear e2 hs;unfold cU.pv at*;generalize aa ch=b1 at*;generalize l.all cz=b2 at*;refine eW call289 func289 ?_;repeat' first|simp only[go_sem,seval]|refine cP hb ?_|refine cP vh ?_|refine cP hi ?_|refine oE ?_|apply xX<;>intro hc
  all_goals (exfalso;simp_all)
 obtain⟨vc,hok⟩:=g1;rw[vc]at vh;rw[hok]at hi;have hcm:=sZ vc hr.vc
 by_cases g2:num c<=num ch
 ·have e2:eA (bM s.groups) c sl s.vars ch l=2:=by simp only[eA,vc,hok];rw[ae (by simp),ah g2]
  have hd: ∀ _:True,decide (bc (num ch) (num c)>=0)=true:=fun _=>aJ (fL.2 g2)
  rw[kH,ae (by rw[e2];decide),e2]
  generalize bc (num ch) (num c)=cm at*;clear e2 hs;unfold cU.pv at*;refine eW call289 func289 ?_;exact wJ (hd oT) @hb @vh @hi @hcm
 have hd: ∀ _:True,decide (bc (num ch) (num c)>=0)=false:=fun _=>aG (fun g=>g2 (fL.1 g))
 by_cases g3:l.length=s.vars.length
 case neg=>
  have e2:eA (bM s.groups) c sl s.vars ch l=6:=by simp only[eA,vc,hok];rw[ae (by simp),ae g2,ah g3]
  rw[kH,ae (by rw[e2];decide),e2]
  generalize bc (num ch) (num c)=cm at*;clear e2 hs;unfold cU.pv at*;refine eW call289 func289 ?_;repeat' first|simp only[go_sem,seval,hd oT,l5,l2]|refine cP hb ?_|refine cP vh ?_|refine cP hi ?_|refine cP hcm ?_|refine oE ?_|apply xX<;>intro hc
  all_goals (exfalso;omega)
 have hms:=Dg hs.m h1 vc g3 (bH.1 hok);have hv:=hs.v;have hval: ∀x∈l,aa x.2=true:=fun x hx=>by
  have:=bH.1 hok x hx;simp only[cz,ba]at this;exact this.1
 have e0:eA (bM s.groups) c sl s.vars ch l=if !E6 (bM s.groups) c sl s.vars l then 2 else 0:=by
  simp only[eA,vc,hok];rw[ae (by simp),ae g2,ae oO]
 unfold kH;rw[e0];clear e0 hs hok;obtain⟨gs,vs,es⟩:=s;simp only at*;generalize bM gs=o at*;unfold cU.pv at*;simp only at*;generalize bc (num ch) (num c)=cm at*;refine eW call289 func289 ?_;refine uE (aN (hd oT) (aN @l5 @l2)) @hb @vh @hi @hcm ?_;refine af (α:=Nat) (fun i=>vs.length-i) (fun i=>⟨[(2, .v (.s ch)),(3, .v (.sl (l.map cT))),(5, .p 1001 0 0),(11, .v (.sl (vs.map fun b=>N (lR o c sl b)))),(45, .v (.sl (vs.map cO))),(46,E' vs.length),(47,E' i)],[(1001,⟨0,[.v (.sl (gs.map eB)), .v (.sl (vs.map cO)), .v (.sl (es.map dx.pv))],false,none⟩)],_⟩) (fun i=>i<=vs.length/\ ∀j,j<i->sQ (vs.getD j []) (l.getD j fU) (lR o c sl (vs.getD j []))=true) 0 (fun _=>aA _) ⟨aI _,fun j hj=>oO⟩ ?_ ?_
 ·exact lE
 ·rintro i ⟨hi',hf⟩ R hR
  by_cases hlt:i<vs.length
  ·have e1:=getD_map cO vs [] hlt;have e2:=getD_map (fun b=>N (lR o c sl b)) vs [] hlt
   have hlt2:i<l.length:=oO;have e3:=getD_map cT l fU hlt2;obtain⟨k1,k3⟩:=hv _ (an [] hlt);have kv:=hval _ (an fU hlt2);have ad:aE 391 [cO (vs.getD i []),N (lR o c sl (vs.getD i [])),cT (l.getD i fU)] (.b (sQ (vs.getD i []) (l.getD i fU) (lR o c sl (vs.getD i [])))):=OG (vs.getD i []) (n:=(l.getD i fU).1) kv (Iu hr lo k3);have hgo:=hR (i+1)
   by_cases hc2:sQ (vs.getD i []) (l.getD i fU) (lR o c sl (vs.getD i []))=true
   ·have hgo:=hgo ⟨oO,fun j hj=>by
     by_cases e:j=i
     ·rw[e];exact hc2
     ·exact hf j oO⟩ oO
    rw[hc2]at ad;clear hR hf hc2 kv k1 k3;generalize lR o c sl (vs.getD i [])=L at*;generalize vs.getD i []=b at*;obtain⟨x,hx⟩: ∃x,x=l.getD i fU:=⟨_,rfl⟩;rw[<-hx]at ad e3;clear hx;obtain⟨xn,xa⟩:=x;simp only[cO,cT]at*;exact gV (aN @l2 (aN @l5 (aN @l6 (aN @e1 (aN @e2 @e3))))) @hgo @ad
   ·rw[E7 hlt hc2];rw[fz.2 hc2]at ad;clear hR hf hgo hc2 kv k1 k3;generalize lR o c sl (vs.getD i [])=L at*;generalize vs.getD i []=b at*;obtain⟨x,hx⟩: ∃x,x=l.getD i fU:=⟨_,rfl⟩;rw[<-hx]at ad e3;clear hx;obtain⟨xn,xa⟩:=x;simp only[cO,cT]at*;exact m9 (aN @l2 (aN @l5 (aN @l6 (aN @e1 (aN @e2 @e3))))) @ad
  ·obtain rfl:i=vs.length:=oO;rw[vC hf];exact m9 @l2 @hms
theorem EC {α:Type} {f:Nat->α->Nat} {m:Nat} (h: ∀x a,f x a<m): ∀(l:List α) (x:Nat),x<m->l.foldl f x<m
 |[],_,hx=>hx
 |a::l,x,_=>EC h l _ (h x a)
theorem Im {s:cU} (hs:Ca s) (ch:Bytes) (rs:List (Bool×Bytes)): ∀x∈o9 s ch rs,x.length<=8/\aa x=true:=by
 intro x hx;obtain⟨q,hq,rfl⟩:=bm.1 hx;obtain⟨q1,q2,-⟩:=hs.q q hq;have hg:=hs.g _ (an fj (show q.mS.toNat<s.groups.length by omega))
 have hm:=(jf hg.1).2.2.1;have hlt:gG s.groups ch rs q<256^8:=by
  refine jy ?_ (eR hg.2.1);unfold gG;exact EC (fun x a=>aL _ oO) _ _ (aL _ oO)
 exact⟨o6.2 hlt,vN hlt⟩
theorem GX {s:cU} (hp:As c sl s) (h0:s.vars≠[]) (h00:s.eqs≠[]) (h1:rs.length<1000000) (hf:fP c s.vars.length ch rs [] []=0) (hi:eA (bM s.groups) c sl s.vars ch rs≠0):
  aE 209 [X0 c sl s,xz ch rs [] []] (.tup [Y9,B0,E (eA (bM s.groups) c sl s.vars ch rs)]):=by
 have hfo:=Cy (c:=c) (sl:=sl) hp.r.vc s ch rs [] [] h1 (by simp) (by simp) (by simp)
 rw[hf]at hfo;have hfi:=I8 hp h00 (ch:=ch) (l:=rs) h1;have hl:kH c sl s ch rs=[]:=by unfold kH;rw[ae hi]
 rw[hl]at hfi;have hb:(eA (bM s.groups) c sl s.vars ch rs==0)=false:=by simpa using hi
 generalize eA (bM s.groups) c sl s.vars ch rs=e at*;obtain⟨gq,vs,es⟩:=s;simp only[X0,xz,cU.pv]at hfo hfi⊢;refine eW call209 func209 ?_;repeat' first|simp only[go_sem,seval,hb]|refine cP hfo ?_|refine cP hfi ?_|refine oE ?_|apply xX<;>intro hc
 all_goals skip
theorem GY {s:cU} (hp:As c sl s) (h0:s.vars≠[]) (h00:s.eqs≠[]) (h1:rs.length<1000000) (hf:fP c s.vars.length ch rs [] []=0) (hi:eA (bM s.groups) c sl s.vars ch rs=0):
  aE 209 [X0 c sl s,xz ch rs [] []] (.tup [.agg [.sl (s.eqs.map fun q=>N (gG s.groups ch rs q)), .s ch, .sl (rs.map cT)],B0,E 0]):=by
 have hfo:=Cy (c:=c) (sl:=sl) hp.r.vc s ch rs [] [] h1 (by simp) (by simp) (by simp)
 rw[hf]at hfo;have hfi:=I8 hp h00 (ch:=ch) (l:=rs) h1;have hl:kH c sl s ch rs=s.eqs.map fun q=>N (gG s.groups ch rs q):=by unfold kH;rw[ah hi]
 rw[hl,hi]at hfi;have hrs:rs≠[]:=by
  intro h;subst h;unfold fP at hf;have hv:([]:List (Bool×Bytes)).length≠s.vars.length:=by
   intro h;exact h0 (gb.1 h.symm)
  split at hf
  ·exact aM hf oC
  ·rw[ah (.inl hv)]at hf;exact aM hf oC
 have hcl:=Jn hrs h1;have hcn:=HL;generalize (s.eqs.map fun q=>N (gG s.groups ch rs q))=fl at*
 obtain⟨gq,vs,es⟩:=s;simp only[X0,xz,cU.pv,bR]at hfo hfi⊢;refine eW call209 func209 ?_;exact Y7 @hfo @hfi @hcl @hcn
noncomputable def vW (c sl ctx:Bytes) (s:cU) (ch:Bytes) (rs:List (Bool×Bytes)) (gs:List Bytes) (ls:List (List (Bool×Bytes))):Int:=
 if fP c s.vars.length ch rs gs ls≠0 then fP c s.vars.length ch rs gs ls else if eA (bM s.groups) c sl s.vars ch rs≠0 then eA (bM s.groups) c sl s.vars ch rs else if aY (iU (Bs ctx s (o9 s ch rs)) c)=ch then 0 else 16
theorem MG {s:cU} (hp:As c sl s) (hb:SF s) (h00:s.eqs≠[]) (hx:ctx.length<=100000) (h1:rs.length<1000000) (h2:gs.length<=1000) (h3:ls.length<=1000) (h4: ∀l∈ls,l.length<4611686018427387904):
  aE 98 [.agg [.s c, .s sl], .s ctx,s.pv,C0,xz ch rs gs ls] (E (vW c sl ctx s ch rs gs ls)):=by
 have hn:=wB hp;unfold vW
 by_cases hf:fP c s.vars.length ch rs gs ls=0
 ·obtain⟨rfl,rfl⟩:=Bq hf;rw[ae (by simpa using hf)]
  by_cases hi:eA (bM s.groups) c sl s.vars ch rs=0
  ·rw[ae (by simpa using hi)]
   have ho:=GY hp hb.v0 h00 h1 hf hi;have hmap:(s.eqs.map fun q=>N (gG s.groups ch rs q))=(o9 s ch rs).map .s:=by unfold o9;rw[iV];rfl
   rw[hmap]at ho;have f0:o9 s ch rs≠[]:=by unfold o9;simpa using h00
   have fl: ∀x∈o9 s ch rs,x.length<=100000:=fun x hx=>by have:=(Im hp.g ch rs x hx).1;omega
   have fn:(o9 s ch rs).length<=900:=by unfold o9;rw[aC];have:=hp.g.ne;omega
   generalize o9 s ch rs=fs at*;have hc:=yC hp.r hb hx f0 fn fl;have ha:=Gh (c:=c) (sl:=sl) s B0 (aY (iU (Bs ctx s fs) c));generalize iU (Bs ctx s fs) c=z at*;obtain⟨gq,vs,es⟩:=s;simp only[X0,xz,cU.pv,bR]at hn ho hc ha⊢;clear hp hb h2 h3 h4 hf hi hmap
   by_cases hz:aY z=ch
   ·rw[ah hz];have hz1:(aY z==ch)=true:=by simpa using hz
    refine eW call98 func98 ?_;exact Sy @hz1 @hn @ho @hc @ha
   ·rw[ae hz];have hz1:(aY z==ch)=false:=by simpa using hz
    refine eW call98 func98 ?_;exact Sy @hz1 @hn @ho @hc @ha
  ·rw[ah hi];have ho:=GX hp hb.v0 h00 h1 hf hi;have hb:(eA (bM s.groups) c sl s.vars ch rs==0)=false:=by simpa using hi
   generalize eA (bM s.groups) c sl s.vars ch rs=e at*;obtain⟨gq,vs,es⟩:=s;simp only[X0,xz,cU.pv,bR]at hn ho⊢;refine eW call98 func98 ?_;exact B8 @hb @hn @ho
 ·rw[ah hf];have ho:=Ko hp.r h1 h2 h3 h4 hf (sl:=sl);have hb:(fP c s.vars.length ch rs gs ls==0)=false:=by simpa using hf
  generalize fP c s.vars.length ch rs gs ls=e at*;obtain⟨gq,vs,es⟩:=s;simp only[X0,xz,cU.pv]at hn ho⊢;refine eW call98 func98 ?_;exact B8 @hb @hn @ho
theorem OD {s:cU} {i:Nat} (hi:i<s.vars.length) {x:Bool×Bytes} (va:aa x.2=true) {L:Nat} (hL:L<dZ):aE 320 [s.pv,E i,cT x,N L] (.b (sQ (s.vars.getD i []) x L)):=by
 obtain⟨n,a⟩:=x;simp only at va;have hla:=cW va;have hc:=gJ (a:=a) (b:=aY L) (bJ va) (gZ L) oO (by have:=nG.2 hL;omega)
 rw[aQ]at hc;have hd: ∀ _:True,decide (bc (num a) L<0)=decide (num a<L):=fun _=>by rw[ew];simp only[cK];exact fM
 have e1:=getD_map cO s.vars [] hi;have l2:(s.vars.map cO).length=s.vars.length:=aC ..;unfold sQ;simp only[cT];generalize bc (num a) L=cm at*;generalize s.vars.getD i []=b at*;generalize decide (num a<L)=p at*;generalize hb:(b==([]:Bytes))=q at*;simp only[cO]at e1;unfold cU.pv
 cases p<;>cases q<;>cases n<;>
 ·refine eW call320 func320 ?_;repeat' first|simp only[go_sem,seval,hb,bne,hd oT,l2,e1]|refine cP hc ?_|refine oE ?_|apply xX<;>intro hc
  all_goals rfl
theorem BO {s:cU} (hp:As c sl s) (h1:TY s) (h2:s.eqs≠[]) {l:List (Bool×Bytes)} (hll:l.length<1000000) (h24: ∀x∈l,x.2.length<=24):aE 207 [.agg [.s c, .s sl],s.pv, .s ch, .sl (l.map cT)] (.tup [.sl (kH c sl s ch l),E (eA (bM s.groups) c sl s.vars ch l)]):=by
 have hr:=hp.r;have hs:=hp.g;have hb:=zR hp;have lo:=(fa hs.g).2;clear hp;have vh:=aK ch;have hi:=KP l hll;have l5:(l.map cT).length=l.length:=aC ..;have l2:(s.vars.map cO).length=s.vars.length:=aC ..;have l6:(s.vars.map fun b=>N (lR (bM s.groups) c sl b)).length=s.vars.length:=aC ..
 have nv:=hs.nv
 by_cases g1:aa ch=true/\l.all cz=true
 case neg=>
  have e:(aa ch&&l.all cz)=false:=by rw[fz];intro g;simp at g;exact g1 ⟨g.1,by simpa[bH]using g.2⟩
  have e2:eA (bM s.groups) c sl s.vars ch l=3:=by simp only[eA,e];rfl
  rw[kH,ae (by rw[e2];decide),e2]
  clear e2 hs;unfold cU.pv at*;generalize aa ch=b1 at*;generalize l.all cz=b2 at*;refine eW call207 func207 ?_;repeat' first|simp only[go_sem,seval]|refine cP hb ?_|refine cP vh ?_|refine cP hi ?_|refine oE ?_|apply xX<;>intro hc
  all_goals (exfalso;simp_all)
 obtain⟨vc,hok⟩:=g1;rw[vc]at vh;rw[hok]at hi;have hlc:=cW vc;have hrl:=hr.lc;have hcm:=gJ (bJ vc) (bJ hr.vc) oO oO
 by_cases g2:num c<=num ch
 ·have e2:eA (bM s.groups) c sl s.vars ch l=2:=by simp only[eA,vc,hok];rw[ae (by simp),ah g2]
  have hd: ∀ _:True,decide (bc (num ch) (num c)>=0)=true:=fun _=>aJ (fL.2 g2)
  rw[kH,ae (by rw[e2];decide),e2]
  generalize bc (num ch) (num c)=cm at*;clear e2 hs;unfold cU.pv at*;refine eW call207 func207 ?_;exact wJ (hd oT) @hb @vh @hi @hcm
 have hd: ∀ _:True,decide (bc (num ch) (num c)>=0)=false:=fun _=>aG (fun g=>g2 (fL.1 g))
 by_cases g3:l.length=s.vars.length
 case neg=>
  have e2:eA (bM s.groups) c sl s.vars ch l=6:=by simp only[eA,vc,hok];rw[ae (by simp),ae g2,ah g3]
  rw[kH,ae (by rw[e2];decide),e2]
  generalize bc (num ch) (num c)=cm at*;clear e2 hs;unfold cU.pv at*;refine eW call207 func207 ?_;repeat' first|simp only[go_sem,seval,hd oT,l5,l2]|refine cP hb ?_|refine cP vh ?_|refine cP hi ?_|refine cP hcm ?_|refine oE ?_|apply xX<;>intro hc
  all_goals (exfalso;omega)
 have hms:=KE hs.m h1 h2 vc g3 h24;have hv:=hs.v;have hval: ∀x∈l,aa x.2=true:=fun x hx=>by
  have:=bH.1 hok x hx;simp only[cz,ba]at this;exact this.1
 have e0:eA (bM s.groups) c sl s.vars ch l=if !E6 (bM s.groups) c sl s.vars l then 2 else 0:=by
  simp only[eA,vc,hok];rw[ae (by simp),ae g2,ae oO]
 have hwi: ∀{i:Nat},i<s.vars.length->aE 320 [s.pv,E i,cT (l.getD i fU),N (lR (bM s.groups) c sl (s.vars.getD i []))] (.b (sQ (s.vars.getD i []) (l.getD i fU) (lR (bM s.groups) c sl (s.vars.getD i [])))):=fun{i} hlt=>by
  obtain⟨k1,k3⟩:=hv _ (an [] hlt);exact OD hlt (hval _ (an fU oO)) (Iu hr lo k3)
 unfold kH;rw[e0];clear e0 hs hok h1;obtain⟨gs,vs,es⟩:=s;simp only at*;generalize bM gs=o at*;unfold cU.pv at*;simp only at*;generalize bc (num ch) (num c)=cm at*;refine eW call207 func207 ?_;refine uE (aN (hd oT) (aN @l5 @l2)) @hb @vh @hi @hcm ?_;refine af (α:=Nat) (fun i=>vs.length-i) (fun i=>⟨[(2, .v (.s ch)),(3, .v (.sl (l.map cT))),(5, .p 1001 0 0),(11, .v (.sl (vs.map fun b=>N (lR o c sl b)))),(13,E' i)],[(1001,⟨0,[.v (.sl (gs.map eB)), .v (.sl (vs.map cO)), .v (.sl (es.map dx.pv))],false,none⟩)],_⟩) (fun i=>i<=vs.length/\ ∀j,j<i->sQ (vs.getD j []) (l.getD j fU) (lR o c sl (vs.getD j []))=true) 0 (fun _=>aA _) ⟨aI _,fun j hj=>oO⟩ ?_ ?_
 ·exact lE
 ·rintro i ⟨hi',hf⟩ R hR
  by_cases hlt:i<vs.length
  ·have e2:=getD_map (fun b=>N (lR o c sl b)) vs [] hlt
   have hlt2:i<l.length:=oO;have e3:=getD_map cT l fU hlt2;have ad:=hwi hlt;have hgo:=hR (i+1)
   by_cases hc2:sQ (vs.getD i []) (l.getD i fU) (lR o c sl (vs.getD i []))=true
   ·have hgo:=hgo ⟨oO,fun j hj=>by
     by_cases e:j=i
     ·rw[e];exact hc2
     ·exact hf j oO⟩ oO
    rw[hc2]at ad;clear hR hf hc2 hwi;generalize lR o c sl (vs.getD i [])=L at*;obtain⟨x,hx⟩: ∃x,x=l.getD i fU:=⟨_,rfl⟩;rw[<-hx]at ad e3;clear hx;obtain⟨xn,xa⟩:=x;simp only[cT]at*;exact gV (aN @l2 (aN @l5 (aN @l6 (aN @e2 @e3)))) @hgo @ad
   ·rw[E7 hlt hc2];rw[fz.2 hc2]at ad;clear hR hf hgo hc2 hwi;generalize lR o c sl (vs.getD i [])=L at*;obtain⟨x,hx⟩: ∃x,x=l.getD i fU:=⟨_,rfl⟩;rw[<-hx]at ad e3;clear hx;obtain⟨xn,xa⟩:=x;simp only[cT]at*;exact m9 (aN @l2 (aN @l5 (aN @l6 (aN @e2 @e3)))) @ad
  ·obtain rfl:i=vs.length:=oO;rw[vC hf];exact m9 (aN @l2 @l5) @hms
theorem Fo {s:cU} (hp:As c sl s) (ht:TY s) (h0:s.vars≠[]) (h00:s.eqs≠[]) (h1:rs.length<1000000) (h24: ∀x∈rs,x.2.length<=24) (hf:fP c s.vars.length ch rs [] []=0) (hi:eA (bM s.groups) c sl s.vars ch rs≠0):
  aE 211 [.agg [.s c, .s sl],s.pv,C0,xz ch rs [] []] (.tup [Y9,B0,E (eA (bM s.groups) c sl s.vars ch rs)]):=by
 obtain⟨o1,o2,o3,o4⟩:=EE hf;have hst:=qR hp;have v1:=aK ch;rw[o1]at v1;have v2:=kP rs oO;rw[o2]at v2;have v4:=pq [] (by simp)
 have hcm:=po ch c;rw[o1,hp.r.vc]at hcm;simp only[dt,ax]at hcm;have hfi:=BO hp ht h00 (ch:=ch) (l:=rs) h1 h24;have hl:kH c sl s ch rs=[]:=by unfold kH;rw[ae hi]
 rw[hl]at hfi;have hb:(eA (bM s.groups) c sl s.vars ch rs==0)=false:=by simpa using hi
 generalize eA (bM s.groups) c sl s.vars ch rs=e at*;have l1:(rs.map cT).length=rs.length:=aC ..;obtain⟨gq,vs,es⟩:=s;have l2:(vs.map cO).length=vs.length:=aC ..;have o3:rs.length=vs.length:=o3;simp only[xz,cU.pv,bR]at hst hfi v4⊢;have h7: ∀ _:True,¬(0:Int)<=bc (num ch) (num c):=fun _ h=>o4 (fL.1 h)
 have h5: ∀ _:True,decide (bc (num ch) (num c)>=0)=false:=fun _=>aG (h7 oT)
 generalize bc (num ch) (num c)=z at*;clear hf o4;refine eW call211 func211 ?_;repeat' first|simp only[go_sem,seval,l1,l2,o3,hb,h5 oT]|refine cP hst ?_|refine cP v1 ?_|refine cP v2 ?_|refine cP v4 ?_|refine cP qQ ?_|refine cP hcm ?_|refine cP hfi ?_|(refine ai ?_)|refine oE ?_|apply xX<;>intro hc
theorem Fp {s:cU} (hp:As c sl s) (ht:TY s) (h0:s.vars≠[]) (h00:s.eqs≠[]) (h1:rs.length<1000000) (h24: ∀x∈rs,x.2.length<=24) (hf:fP c s.vars.length ch rs [] []=0) (hi:eA (bM s.groups) c sl s.vars ch rs=0):
  aE 211 [.agg [.s c, .s sl],s.pv,C0,xz ch rs [] []] (.tup [.agg [.sl (s.eqs.map fun q=>N (gG s.groups ch rs q)), .s ch, .sl (rs.map cT)],B0,E 0]):=by
 obtain⟨o1,o2,o3,o4⟩:=EE hf;have hst:=qR hp;have v1:=aK ch;rw[o1]at v1;have v2:=kP rs oO;rw[o2]at v2;have v4:=pq [] (by simp)
 have hcm:=po ch c;rw[o1,hp.r.vc]at hcm;simp only[dt,ax]at hcm;have hfi:=BO hp ht h00 (ch:=ch) (l:=rs) h1 h24;have hl:kH c sl s ch rs=s.eqs.map fun q=>N (gG s.groups ch rs q):=by unfold kH;rw[ah hi]
 rw[hl,hi]at hfi;generalize (s.eqs.map fun q=>N (gG s.groups ch rs q))=fl at*
 obtain⟨gq,vs,es⟩:=s;have l2:(vs.map cO).length=vs.length:=aC ..;have o3:rs.length=vs.length:=o3;obtain⟨x,r,hxr⟩: ∃x r,rs=x::r:=by
  cases hrs:rs with
  |nil=>rw[hrs]at o3;exact aM (gb.1 o3.symm) h0
  |cons a b=>exact⟨a,b,rfl⟩
 have l1:(rs.map cT).length=rs.length:=aC ..;simp only[xz,cU.pv,bR]at hst hfi v4⊢;have h7: ∀ _:True,¬(0:Int)<=bc (num ch) (num c):=fun _ h=>o4 (fL.1 h)
 have h5: ∀ _:True,decide (bc (num ch) (num c)>=0)=false:=fun _=>aG (h7 oT)
 generalize bc (num ch) (num c)=z at*;have hn: ∀ _:True,¬rs.length=0:=fun _=>by rw[hxr];simp
 have hn2: ∀ _:True,¬vs.length=0:=fun _=>by rw[<-o3];exact hn oT
 clear hf o4;refine eW call211 func211 ?_;repeat' first|simp only[go_sem,seval,l1,l2,o3,h5 oT,hn oT,hn2 oT]|refine cP hst ?_|refine cP v1 ?_|refine cP v2 ?_|refine cP v4 ?_|refine cP qQ ?_|refine cP hcm ?_|refine cP hfi ?_|(refine ai ?_)|refine oE ?_|apply xX<;>intro hc
 have hrow:List.map AV.v (List.flatMap PV.cells (List.map cT rs))=aX cT rs:=by
  rw[aX,uu]
 have q2:=dQ jA rs;rw[hrow];have hv2:vs.length<1000000:=oO;refine⟨⟨fun y hy=>by obtain⟨z,-,rfl⟩:=bm.1 hy;exact jA.len z,fun y hy=>bH.1 q2 y hy,oO,oO⟩,?_⟩
 refine ai ?_;have q0:(aX cT rs).length=vs.length*2:=by rw[cj jA,o3]
 have q1:List.take (vs.length*2) (aX cT rs)=aX cT rs:=by rw[<-o3];exact cq jA rs
 have q3:chunk 2 vs.length (rs.flatMap fun x=>(cT x).cells)=rs.map cT:=by rw[<-o3];exact cJ jA rs
 exact gi (aN @q0 (aN @q1 (aN @q2 (aN @q3 @ec))))
theorem Hf {s:cU} (hp:As c sl s) (ht:TY s) (hb:SF s) (h00:s.eqs≠[]) (hx:ctx.length<=100000) (h1:rs.length<1000000) (h24: ∀x∈rs,x.2.length<=24) (h2:gs.length<=1000) (h3:ls.length<=1000) (h4: ∀l∈ls,l.length<4611686018427387904):
  aE 99 [.agg [.s c, .s sl], .s ctx,s.pv,C0,xz ch rs gs ls] (E (vW c sl ctx s ch rs gs ls)):=by
 unfold vW
 by_cases hf:fP c s.vars.length ch rs gs ls=0
 ·obtain⟨rfl,rfl⟩:=Bq hf;rw[ae (by simpa using hf)]
  by_cases hi:eA (bM s.groups) c sl s.vars ch rs=0
  ·rw[ae (by simpa using hi)]
   have ho:=Fp hp ht hb.v0 h00 h1 h24 hf hi;have hmap:(s.eqs.map fun q=>N (gG s.groups ch rs q))=(o9 s ch rs).map .s:=by unfold o9;rw[iV];rfl
   rw[hmap]at ho;have f0:o9 s ch rs≠[]:=by unfold o9;simpa using h00
   have fl:=Im hp.g ch rs;have fe:(o9 s ch rs).length=s.eqs.length:=by unfold o9;rw[aC]
   generalize o9 s ch rs=fs at*;have hc:=AN hp hb hx f0 fe (fun x hx=>(fl x hx).1) (bH.2 fun x hx=>(fl x hx).2)
   have ha:=Om ch;generalize iU (Bs ctx s fs) c=z at*;obtain⟨gq,vs,es⟩:=s;simp only[xz,cU.pv,bR]at ho hc⊢;clear hp hb h2 h3 h4 hf hi hmap
   by_cases hz:aY z=ch
   ·rw[ah hz];have hz1:(aY z==ch)=true:=by simpa using hz
    refine eW call99 func99 ?_;exact Sy @hz1 @ho @hc @ha @Fv
   ·rw[ae hz];have hz1:(aY z==ch)=false:=by simpa using hz
    refine eW call99 func99 ?_;exact Sy @hz1 @ho @hc @ha @Fv
  ·rw[ah hi];have ho:=Fo hp ht hb.v0 h00 h1 h24 hf hi;have hb:(eA (bM s.groups) c sl s.vars ch rs==0)=false:=by simpa using hi
   generalize eA (bM s.groups) c sl s.vars ch rs=e at*;obtain⟨gq,vs,es⟩:=s;simp only[xz,cU.pv,bR]at ho⊢;refine eW call99 func99 ?_;exact m9 @hb @ho
 ·rw[ah hf];have ho:=Hc hp hb.v0 h1 h2 h3 h4 hf;have hb:(fP c s.vars.length ch rs gs ls==0)=false:=by simpa using hf
  generalize fP c s.vars.length ch rs gs ls=e at*;obtain⟨gq,vs,es⟩:=s;simp only[xz,cU.pv]at ho⊢;refine eW call99 func99 ?_;exact m9 @hb @ho
