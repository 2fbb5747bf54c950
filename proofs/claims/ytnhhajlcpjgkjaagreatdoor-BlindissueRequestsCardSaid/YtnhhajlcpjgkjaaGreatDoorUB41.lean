/- Part of the proof. -/
import Derived.Test.YtnhhajlcpjgkjaaGreatDoorUB40
set_option linter.all false
set_option maxHeartbeats 16000000
set_option maxRecDepth 100000
namespace Go.Proofs.Tryz
open Go Go.Dom Go.Num
variable {c sd sl:Bytes} {vs:List Bytes}
theorem oP {M:Nat}: ∀(l:List (Nat×(Bool×Bytes))) (x:Nat),x<M->oN M x l=x*wc M l%M
 |[],x,h=>by rw[xQ,jR,dG,bE h];rfl
 |(a,e)::r,x,h=>by
  rw[oN,oP r _ (aQ _ oO),qF,jU,jR,cK]
theorem Ph {m:Bytes} (lm:m.length<=8) {o:Bytes} (lo:o.length<=8) (hE:gE m o=0) {ts:List dM} {w:List Int} (hn:ts.length<1000000) (hg: ∀t∈ts,jJ m o t.base=true) (hw:WB ts w):aE 49 [G m o, .sl (ts.map fun t=> .s t.base), .sl (ts.map fun t=>Zp (tz w t))] (.tup [N (wc (num m) (ts.map fun t=>(num t.base,fQ (tz w t)))),E 0]):=by
 have h:=im lm lo hE (ts.map fun t=>(num t.base,fQ (tz w t))) (by simpa using hn) (fun p hp=>by
  obtain⟨t,ht,rfl⟩:=cE.1 hp;obtain⟨-,-,-,h4,h5⟩:=hw t ht;have hz:=og (z:=tz w t) (by rw[tz,jg];exact h5)
  simp only[fQ,cg,aZ,ey]at hz;exact⟨((cJ hE).1 (hg t ht)).2,hz.1,hz.2⟩)
 have m1:=(lO hE).2.2.1;rw[oP _ _ m1,ie,show wc (num m) (ts.map fun t=>(num t.base,fQ (tz w t)))%num m=wc (num m) (ts.map fun t=>(num t.base,fQ (tz w t)))from eE _ _,ig,ig]at h
 rw[show(ts.map fun t=>PV.s t.base)=ts.map ((fun p:Nat×Bool×Bytes=>N p.1)∘fun t=>(num t.base,fQ (tz w t)))from mn fun t ht=>(dN (gb hE (hg t ht))).symm]
 exact h
theorem Cy {P:Program} [cM P] {Q:AX->AS->Prop} {nx:Nat} {bf:Option (List Nat)} {nn:Nat} {d:Option Nat} {ops:List jD} {k:Nat} {s:AS} {tr:List (Nat×List Nat×List Nat)} {K:List Fr} {nm:Nat} {f:FuncId} {α β:Type} {g:α->PV} {g':β->PV} {z n ver m z' n' ver' m':Nat} {l:List α} {l':List β} {gr gr':Bool} {el el':Option TypeId} {x r:PV}
  (he:qX P f [x, .sl (l.map g), .sl (l'.map g')] r) (hrow:cU g z) (hrow':cU g' z') (hr:r.flat=true) (hg:aC s.h n=some ⟨ver,aT g l,gr,el⟩) (hg':aC s.h n'=some ⟨ver',aT g' l',gr',el'⟩) (hm:m=l.length) (hm':m'=l'.length) (hK:RW P Q nx bf nn ops (k+1) (s.tc d (.v r) []) (x6 bf k [n,n'] [] tr) K):
  CR P Q nx bf nn nm (.v (.fn (.func f))) [.v x, .rs n ver 0 m z, .rs n' ver' 0 m' z'] d ops k s tr K:=by
 refine fw he ?_ hr ?_
 ·simp[bc,kJ hrow hm hg,kJ hrow' hm' hg'];rfl
 ·have:[AV.v x,AV.rs n ver 0 m z,AV.rs n' ver' 0 m' z'].flatMap (bJ (aC s.h) 9)=[n,n']:=by simp[mY hrow hm hg,mY hrow' hm' hg'];rfl
  rw[this];exact hK
theorem Gc {s:cG} (hs:xl s) (hnt: ∀q∈s.eqs,q.terms≠[]) {w:List Int} (hw:WS s w):aE 242 [s.pv, .sl (w.map Zp)] (.tup [.sl ((oJ s w).map .s),E 0]):=by
 obtain⟨L,hLd⟩: ∃L,L=oJ s w:=⟨_,rfl⟩;have hI:=fun i (h:i<s.eqs.length)=>(show L.getD i []=bQ (I5 s.groups w (s.eqs.getD i fJ)) by rw[hLd,oJ];simp[b9,h])
 have hL:L.length=s.eqs.length:=by rw[hLd,rh]
 rw[<-hLd];clear hLd;unfold WS at hw;obtain⟨gs,vs,es⟩:=s;obtain⟨-,hg,hv,hq,ng,nv,ne,-⟩:=hs;simp only at hg hv hq ng nv ne hw hI hL hnt;have l1:(gs.map dO).length=gs.length:=aG ..;have l3:(es.map c9.pv).length=es.length:=aG ..;have l5:(w.map Zp).length=w.length:=aG ..;unfold cG.pv;simp only
 by_cases h0:es=[]
 ·subst h0;obtain rfl:L=[]:=eH.1 hL;simp only[ca];refine eW call242 func242 ?_;exact Qc
 have hpos:0<es.length:=je.2 h0;have hB:=T6;have hZ:=Ua w;refine eW call242 func242 ?_;refine dH @l3 ?_;refine aj ?_;have e1:=getD_map c9.pv es fJ hpos;obtain⟨q1,q2,q3,q4,q5⟩:=hq _ (au fJ hpos);have kw:=hw _ (au fJ hpos);have kn:=hnt _ (au fJ hpos);have r1:=Dw (l:=L) (i:=0) (by rw[hL];exact hpos)
 have r2:=hI 0 hpos;obtain⟨x,hx⟩: ∃x,x=es.getD 0 fJ:=⟨_,rfl⟩;rw[<-hx]at e1 q1 q2 q3 q4 q5 kw kn r2;clear hx;obtain⟨gr,tg,ts⟩:=x;simp only at q1 q2 q3 q4 q5 kw kn;have hgl:gr.toNat<gs.length:=oO;have kg:=hg _ (au eV hgl);have e3:=getD_map dO gs eV hgl;simp only[I5]at r2;obtain⟨z,hz⟩: ∃z,z=gs.getD gr.toNat eV:=⟨_,rfl⟩;rw[<-hz]at q5 kg e3 r2;clear hz q3;obtain⟨m,o⟩:=z;simp only at q5 kg r2;have xe:=Ph kg.2.1 kg.2.2 kg.1 (ts:=ts) (w:=w) oO (fun t ht=>(q5 t ht).2.2.1) kw
 have xe:aE 49 [G m o, .sl (ts.map fun t=> .s t.base), .sl (ts.map fun t=>Zp (tz w t))] (.tup [.s (L.getD 0 []),E 0]):=by rw[r2];exact xe
 clear r2 kg q5;simp only[dO]at e3;simp only[c9.pv]at e1;have tpos:0<ts.length:=je.2 kn;have l4:(ts.map dM.pv).length=ts.length:=aG ..;refine dH (aN @l1 (aN @l3 @e1)) ?_;refine aj ?_;have f1:=getD_map dM.pv ts dE tpos;obtain⟨t1,t2,t3,t4,t5⟩:=kw _ (au dE tpos);have g1:aT (fun t:dM=>PV.s t.base) (ts.take (0+1))=aT (fun t:dM=>PV.s t.base) (ts.take 0)++[.v (.s (ts.getD 0 dE).base)]:=by rw[aL dE tpos,bT];rfl
 have g2:aT (fun t=>Zp (tz w t)) (ts.take (0+1))=aT (fun t=>Zp (tz w t)) (ts.take 0)++[.v (.b (zs (tz w (ts.getD 0 dE)))), .v (.s (zb (tz w (ts.getD 0 dE))))]:=by rw[aL dE tpos,bT];rfl
 have htz:tz w (ts.getD 0 dE)=uY ((ts.getD 0 dE).neg,(ts.getD 0 dE).abs)*w.getD (ts.getD 0 dE).var.toNat 0:=rfl;obtain⟨y,hy⟩: ∃y,y=ts.getD 0 dE:=⟨_,rfl⟩;rw[<-hy]at f1 t1 t2 t3 t4 t5 g1 g2 htz;clear hy;obtain⟨b,v,n,a⟩:=y;simp only at t1 t2 t3 t4 t5 g1 htz;have hx:=Ao (x:=uY (n,a)) (y:=w.getD v.toNat 0) (by rw[pR];simp only[cg,aZ]at t3;exact jL t3.1) t4 t5
 have f2:=getD_map Zp w 0 (i:=v.toNat) oO;have ez:Z (uY (n,a))= .agg [.b n, .s a]:=congrArg cI (ri t3);rw[ez,<-htz]at hx;clear t3 t4 t5 ez htz;generalize tz w ⟨b,v,n,a⟩=z at*;generalize w.getD v.toNat 0=wv at*;simp only[dM.pv]at f1;simp only[Zp,cI,fQ]at f2;refine m9 (aN @l4 (aN @l5 (aN @f1 @f2))) @hx ?_;refine ak (α:=Nat) (fun j=>ts.length-(j+1)) (fun j=>⟨[(1, .v (.sl (w.map Zp))),(2, .p 1000 0 0),(6, .sn),(7,E' 0),(8, .p 1015 0 0),(9, .rs 1057 j 0 (j+1) 1),(10, .rs 1062 j 0 (j+1) 2),(11,E' (j+1))],[(1000,⟨0,[.v (.sl (gs.map dO)), .v (.sl (vs.map cz)), .v (.sl (es.map c9.pv))],false,none⟩),(1015,⟨0,[.v (.i .i64 gr), .v (.s tg), .v (.sl (ts.map dM.pv))],false,some 184⟩),(1057,⟨j,aT (fun t:dM=>PV.s t.base) (ts.take (j+1)),true,some 22⟩),(1062,⟨j,aT (fun t=>Zp (tz w t)) (ts.take (j+1)),true,some 94⟩)],1067⟩) (fun j=>j+1<=ts.length) 0 (fun _=>dr rfl) tpos ?_ ?_
 ·rw[ew,g1,g2,List.take_zero,show aT (fun t:dM=>PV.s t.base) []=[]from rfl,show aT (fun t=>Zp (tz w t)) []=[]from rfl]
  (refine AS.Le.of (by first|decide|omega) ?_ ?_<;>simp[dw,du,aS,aC,AV.bd,AV.bd.bdL,u8,an,ar,aA])
  skip
 ·clear f1 f2 hx g1 g2 t1 t2;intro j hj R' hR';have hj1:(ts.take (j+1)).length=j+1:=by rw[cd];omega
  have b1:=cf hB (ts.take (j+1));have b2:=ct hB (ts.take (j+1));have b5:=cf hZ (ts.take (j+1));have b6:=ct hZ (ts.take (j+1));rw[hj1]at b1 b2 b5 b6;rw[dG]at b1 b2
  by_cases hjt:j+1<ts.length
  ·have hgo':=hR' (j+1) oO oO;clear hR';have f1:=getD_map dM.pv ts dE hjt;obtain⟨t1,t2,t3,t4,t5⟩:=kw _ (au dE hjt);have g1:aT (fun t:dM=>PV.s t.base) (ts.take ((j+1)+1))=aT (fun t:dM=>PV.s t.base) (ts.take (j+1))++[.v (.s (ts.getD (j+1) dE).base)]:=by rw[aL dE hjt,bT];rfl
   have g2:aT (fun t=>Zp (tz w t)) (ts.take ((j+1)+1))=aT (fun t=>Zp (tz w t)) (ts.take (j+1))++[.v (.b (zs (tz w (ts.getD (j+1) dE)))), .v (.s (zb (tz w (ts.getD (j+1) dE))))]:=by rw[aL dE hjt,bT];rfl
   have htz:tz w (ts.getD (j+1) dE)=uY ((ts.getD (j+1) dE).neg,(ts.getD (j+1) dE).abs)*w.getD (ts.getD (j+1) dE).var.toNat 0:=rfl;obtain⟨y,hy⟩: ∃y,y=ts.getD (j+1) dE:=⟨_,rfl⟩;rw[<-hy]at f1 t1 t2 t3 t4 t5 g1 g2 htz;clear hy;obtain⟨b,v,n,a⟩:=y;simp only at t1 t2 t3 t4 t5 g1 htz;have hx:=Ao (x:=uY (n,a)) (y:=w.getD v.toNat 0) (by rw[pR];simp only[cg,aZ]at t3;exact jL t3.1) t4 t5
   have f2:=getD_map Zp w 0 (i:=v.toNat) oO;have ez:Z (uY (n,a))= .agg [.b n, .s a]:=congrArg cI (ri t3);rw[ez,<-htz]at hx;clear t3 t4 t5 ez htz;generalize tz w ⟨b,v,n,a⟩=z at*;generalize w.getD v.toNat 0=wv at*;simp only[dM.pv]at f1;simp only[Zp,cI,fQ]at f2;rw[g1,g2]at hgo';refine iy (aN @l4 (aN @l5 (aN @f1 (aN @f2 (aN @b1 (aN @b2 (aN @b5 @b6))))))) @hx ?_;refine hgo' _ ?_
   (refine AS.Le.of (by first|decide|omega) ?_ ?_<;>simp[dw,du,aS,aC,AV.bd,AV.bd.bdL,u8,an,ar,aA])
   all_goals ((repeat' apply And.intro)<;>(intro c hc;first|exact cv hc|(rcases hc with h|h<;>first|exact cv h|(rcases h with rfl|rfl<;>rfl)|(subst h;rfl))))
  ·obtain hjv:j+1=ts.length:=oO;clear hR';rw[hjv,cl]at b1 b2 b5 b6;rw[hjv,cl];repeat' first|simp only[go_sem,seval,l1,l3,l4,e1,e3]|(refine Cy (l:=ts) (g:=fun t:dM=>PV.s t.base) (l':=ts) (g':=fun t=>Zp (tz w t)) (gr:=true) (gr':=true) (el:=some 22) (el':=some 94) xe hB hZ rfl (by simp[aC]) (by simp[aC]) rfl rfl ?_)|refine oE ?_|apply xX<;>intro hc
   have hM:cU PV.s 1:=cU.s;refine ak (α:=Nat) (fun j=>es.length-(j+1)) (fun j=>⟨[(1, .v (.sl (w.map Zp))),(2, .p 1000 0 0),(6, .rs 1089 j 0 (j+1) 1),(7,E' (j+1))],[(1000,⟨0,[.v (.sl (gs.map dO)), .v (.sl (vs.map cz)), .v (.sl (es.map c9.pv))],false,none⟩),(1089,⟨j,aT PV.s (L.take (j+1)),true,some 22⟩)],1094⟩) (fun j=>j+1<=es.length) 0 (fun _=>dr rfl) hpos ?_ ?_
   ·rw[ew,r1,List.take_zero,show aT PV.s ([]:List Bytes)=[]from rfl]
    exact lE
   ·clear e1 e3 q1 q2 q4 xe r1 b1 b2 b5 b6 hjv l4 tpos kn kw;intro i hi R hR;have hj1:(L.take (i+1)).length=i+1:=by rw[cd];omega
    have p1:=cf hM (L.take (i+1));have p2:=ct hM (L.take (i+1));rw[hj1,dG]at p1 p2
    by_cases hlt:i+1<es.length
    ·have hgo:=hR (i+1) oO oO;clear hR;have e1:=getD_map c9.pv es fJ hlt;obtain⟨q1,q2,q3,q4,q5⟩:=hq _ (au fJ hlt);have kw:=hw _ (au fJ hlt);have kn:=hnt _ (au fJ hlt);have r1:=Dw (l:=L) (i:=(i+1)) (by rw[hL];exact hlt)
     have r2:=hI (i+1) hlt;obtain⟨x,hx⟩: ∃x,x=es.getD (i+1) fJ:=⟨_,rfl⟩;rw[<-hx]at e1 q1 q2 q3 q4 q5 kw kn r2;clear hx;obtain⟨gr,tg,ts⟩:=x;simp only at q1 q2 q3 q4 q5 kw kn;have hgl:gr.toNat<gs.length:=oO;have kg:=hg _ (au eV hgl);have e3:=getD_map dO gs eV hgl;simp only[I5]at r2;obtain⟨z,hz⟩: ∃z,z=gs.getD gr.toNat eV:=⟨_,rfl⟩;rw[<-hz]at q5 kg e3 r2;clear hz q3;obtain⟨m,o⟩:=z;simp only at q5 kg r2;have xe:=Ph kg.2.1 kg.2.2 kg.1 (ts:=ts) (w:=w) oO (fun t ht=>(q5 t ht).2.2.1) kw
     have xe:aE 49 [G m o, .sl (ts.map fun t=> .s t.base), .sl (ts.map fun t=>Zp (tz w t))] (.tup [.s (L.getD (i+1) []),E 0]):=by rw[r2];exact xe
     clear r2 kg q5;simp only[dO]at e3;simp only[c9.pv]at e1;rw[r1]at hgo;have tpos:0<ts.length:=je.2 kn;have l4:(ts.map dM.pv).length=ts.length:=aG ..;refine dH (aN @l1 (aN @l3 @e1)) ?_;refine aj ?_;have f1:=getD_map dM.pv ts dE tpos;obtain⟨t1,t2,t3,t4,t5⟩:=kw _ (au dE tpos);have g1:aT (fun t:dM=>PV.s t.base) (ts.take (0+1))=aT (fun t:dM=>PV.s t.base) (ts.take 0)++[.v (.s (ts.getD 0 dE).base)]:=by rw[aL dE tpos,bT];rfl
     have g2:aT (fun t=>Zp (tz w t)) (ts.take (0+1))=aT (fun t=>Zp (tz w t)) (ts.take 0)++[.v (.b (zs (tz w (ts.getD 0 dE)))), .v (.s (zb (tz w (ts.getD 0 dE))))]:=by rw[aL dE tpos,bT];rfl
     have htz:tz w (ts.getD 0 dE)=uY ((ts.getD 0 dE).neg,(ts.getD 0 dE).abs)*w.getD (ts.getD 0 dE).var.toNat 0:=rfl;obtain⟨y,hy⟩: ∃y,y=ts.getD 0 dE:=⟨_,rfl⟩;rw[<-hy]at f1 t1 t2 t3 t4 t5 g1 g2 htz;clear hy;obtain⟨b,v,n,a⟩:=y;simp only at t1 t2 t3 t4 t5 g1 htz;have hx:=Ao (x:=uY (n,a)) (y:=w.getD v.toNat 0) (by rw[pR];simp only[cg,aZ]at t3;exact jL t3.1) t4 t5
     have f2:=getD_map Zp w 0 (i:=v.toNat) oO;have ez:Z (uY (n,a))= .agg [.b n, .s a]:=congrArg cI (ri t3);rw[ez,<-htz]at hx;clear t3 t4 t5 ez htz;generalize tz w ⟨b,v,n,a⟩=z at*;generalize w.getD v.toNat 0=wv at*;simp only[dM.pv]at f1;simp only[Zp,cI,fQ]at f2;refine m9 (aN @l4 (aN @l5 (aN @f1 @f2))) @hx ?_;refine ak (α:=Nat) (fun j=>ts.length-(j+1)) (fun j=>⟨[(1, .v (.sl (w.map Zp))),(2, .p 1000 0 0),(6, .rs 1089 i 0 (i+1) 1),(7,E' (i+1)),(8, .p 1104 0 0),(9, .rs 1146 j 0 (j+1) 1),(10, .rs 1151 j 0 (j+1) 2),(11,E' (j+1))],[(1000,⟨0,[.v (.sl (gs.map dO)), .v (.sl (vs.map cz)), .v (.sl (es.map c9.pv))],false,none⟩),(1104,⟨0,[.v (.i .i64 gr), .v (.s tg), .v (.sl (ts.map dM.pv))],false,some 184⟩),(1146,⟨j,aT (fun t:dM=>PV.s t.base) (ts.take (j+1)),true,some 22⟩),(1151,⟨j,aT (fun t=>Zp (tz w t)) (ts.take (j+1)),true,some 94⟩),(1089,⟨i,aT PV.s (L.take (i+1)),true,some 22⟩)],1156⟩) (fun j=>j+1<=ts.length) 0 (fun _=>dr rfl) tpos ?_ ?_
     ·rw[ew,g1,g2,List.take_zero,show aT (fun t:dM=>PV.s t.base) []=[]from rfl,show aT (fun t=>Zp (tz w t)) []=[]from rfl]
      (refine AS.Le.of (by first|decide|omega) ?_ ?_<;>simp[dw,du,aS,aC,AV.bd,AV.bd.bdL,u8,an,ar,aA])
      all_goals (intro c hc;exact cv hc)
     ·clear f1 f2 hx g1 g2 t1 t2;intro j hj R' hR';have hj1:(ts.take (j+1)).length=j+1:=by rw[cd];omega
      have b1:=cf hB (ts.take (j+1));have b2:=ct hB (ts.take (j+1));have b5:=cf hZ (ts.take (j+1));have b6:=ct hZ (ts.take (j+1));rw[hj1]at b1 b2 b5 b6;rw[dG]at b1 b2
      by_cases hjt:j+1<ts.length
      ·have hgo':=hR' (j+1) oO oO;clear hR';have f1:=getD_map dM.pv ts dE hjt;obtain⟨t1,t2,t3,t4,t5⟩:=kw _ (au dE hjt);have g1:aT (fun t:dM=>PV.s t.base) (ts.take ((j+1)+1))=aT (fun t:dM=>PV.s t.base) (ts.take (j+1))++[.v (.s (ts.getD (j+1) dE).base)]:=by rw[aL dE hjt,bT];rfl
       have g2:aT (fun t=>Zp (tz w t)) (ts.take ((j+1)+1))=aT (fun t=>Zp (tz w t)) (ts.take (j+1))++[.v (.b (zs (tz w (ts.getD (j+1) dE)))), .v (.s (zb (tz w (ts.getD (j+1) dE))))]:=by rw[aL dE hjt,bT];rfl
       have htz:tz w (ts.getD (j+1) dE)=uY ((ts.getD (j+1) dE).neg,(ts.getD (j+1) dE).abs)*w.getD (ts.getD (j+1) dE).var.toNat 0:=rfl;obtain⟨y,hy⟩: ∃y,y=ts.getD (j+1) dE:=⟨_,rfl⟩;rw[<-hy]at f1 t1 t2 t3 t4 t5 g1 g2 htz;clear hy;obtain⟨b,v,n,a⟩:=y;simp only at t1 t2 t3 t4 t5 g1 htz;have hx:=Ao (x:=uY (n,a)) (y:=w.getD v.toNat 0) (by rw[pR];simp only[cg,aZ]at t3;exact jL t3.1) t4 t5
       have f2:=getD_map Zp w 0 (i:=v.toNat) oO;have ez:Z (uY (n,a))= .agg [.b n, .s a]:=congrArg cI (ri t3);rw[ez,<-htz]at hx;clear t3 t4 t5 ez htz;generalize tz w ⟨b,v,n,a⟩=z at*;generalize w.getD v.toNat 0=wv at*;simp only[dM.pv]at f1;simp only[Zp,cI,fQ]at f2;rw[g1,g2]at hgo';refine iy (aN @l4 (aN @l5 (aN @f1 (aN @f2 (aN @b1 (aN @b2 (aN @b5 @b6))))))) @hx ?_;refine hgo' _ ?_
       (refine AS.Le.of (by first|decide|omega) ?_ ?_<;>simp[dw,du,aS,aC,AV.bd,AV.bd.bdL,u8,an,ar,aA])
       all_goals ((repeat' apply And.intro)<;>(intro c hc;first|exact cv hc|(rcases hc with h|h<;>first|exact cv h|(rcases h with rfl|rfl<;>rfl)|(subst h;rfl))))
      ·obtain hjv:j+1=ts.length:=oO;clear hR';rw[hjv,cl]at b1 b2 b5 b6;rw[hjv,cl];repeat' first|simp only[go_sem,seval,l1,l3,l4,e1,e3,p1,p2]|(refine Cy (l:=ts) (g:=fun t:dM=>PV.s t.base) (l':=ts) (g':=fun t=>Zp (tz w t)) (gr:=true) (gr':=true) (el:=some 22) (el':=some 94) xe hB hZ rfl (by simp[aC]) (by simp[aC]) rfl rfl ?_)|refine oE ?_|apply xX<;>intro hc
       refine hgo _ ?_
       (refine AS.Le.of (by first|decide|omega) ?_ ?_<;>simp[dw,du,aS,aC,AV.bd,AV.bd.bdL,u8,an,ar,aA])
       all_goals (intro c hc;rcases hc with h|h<;>first|exact cv h|(subst h;rfl))
    ·obtain hjv:i+1=es.length:=oO;rw[hjv]at p1 p2;have hLt:L.take es.length=L:=cZ oO;rw[hLt]at p1 p2;rw[hjv,hLt];have p3:=dY hM L;have p4:=de hM L;rw[hL]at p4;repeat' first|simp only[go_sem,seval,l3,p1,p2,p3,p4,ek]|refine oE ?_|apply xX<;>intro hc
     all_goals exact congrArg (fun l=>PV.tup [PV.sl l,E 0]) p4
theorem OU {s:cG} (hs:xl s) (hnt: ∀q∈s.eqs,q.terms≠[]) {w:List Int} (hwl:w.length=s.vars.length) (hw: ∀x∈w,x.natAbs<da) (hW:WS s w):aE 245 [s.pv, .sl (w.map Zp)] (.tup [.sl ((oJ s w).map .s),E 0]):=by
 have nv:=hs.nv;have hr:=Cj hs (w:=w.map fQ) (by rw[aG];omega)
 rw[Qg,l8 hw,aG,af (by simp),af (by simpa using hwl)]at hr
 have hi:=Gc hs hnt hW;generalize oJ s w=L at*;obtain⟨gs,vs,es⟩:=s;simp only[cG.pv]at hr hi⊢;refine eW call245 func245 ?_;exact z2 @hr @hi
theorem Ch (b:Bytes) {q:Bytes} (vb:aa b=true) (vq:aa q=true) {x:Int} (hx:x.natAbs<da):aE 120 [cz b, .s q,Zp x] (.b (fM b x (dV q b))):=by
 have hz:=og hx;simp only[fQ,cg,aZ]at hz;have hc1:=gF (zb x) b;have hc2:=gF (zb x) q;rw[hz.1,vb]at hc1;rw[hz.1,vq]at hc2;simp only[cT,aB,qE]at hc1 hc2;have hd1:=qv x.natAbs (num b);have hd2:=qv x.natAbs (num q);have hzs:zs x=decide (x<0):=rfl;unfold fM dV;simp only[Zp,cI,fQ,hzs]
 by_cases hb:b=[]
 ·subst hb;simp only[aB,decide_true,cq];rw[<-hd2];clear hd1 hd2 hc1 hz hzs;generalize aW x.natAbs (num q)=cm at*;generalize decide (x<0)=p at*;unfold cz;cases p
  ·refine eW call120 func120 ?_;exact P9 @nn @hc2
  ·refine eW call120 func120 ?_;exact P9 @nn @hc2
 ·have hbb:(b==([]:Bytes))=false:=by simpa using hb
  simp only[af hb,bu hb,cY,cC,gi];rw[<-hd1];clear hd1 hd2 hc2 hz hzs;generalize aW x.natAbs (num b)=cm at*;generalize decide (x<0)=p at*;unfold cz;refine eW call120 func120 ?_;exact jE @hbb @hc1
theorem SH {s:cG} (hs:xl s) (hnt: ∀q∈s.eqs,q.terms≠[]) {w:List Int} (hwl:w.length=s.vars.length) (hw: ∀x∈w,x.natAbs<da) (hW:tY (bj s.groups) s.vars w=true->WS s w):aE 122 [s.pv, .sl (w.map Zp)] (.tup [.b (tY (bj s.groups) s.vars w&&xr s w),E 0]):=by
 have nv:=hs.nv;have ne:=hs.ne;have hv:=hs.v;have hr:=Cj hs (w:=w.map fQ) (by rw[aG];omega)
 rw[Qg,l8 hw,aG,af (by simp),af (by simpa using hwl)]at hr
 have hm:=fun h=>Gc hs hnt (hW h)
 have hL:=rh s w;have hor:=qL s (by have:=hs.ng;omega)
 have hoV:=dc hs.g;unfold xr;generalize oJ s w=L at*;obtain⟨gs,vs,es⟩:=s;simp only[cG.pv]at hr hm hL hor hoV⊢;simp only at ne nv hv hwl;generalize bj gs=oq at*;have l2:(vs.map cz).length=vs.length:=aG ..;have l3:(es.map c9.pv).length=es.length:=aG ..;have l4:(L.map PV.s).length=es.length:=by rw[aG];exact hL
 have l5:(w.map Zp).length=vs.length:=by rw[aG];exact hwl
 clear hs hW hnt;refine eW call122 func122 ?_;refine m9 @l5 @hr ?_;refine ak (α:=Nat) (fun i=>vs.length-i) (fun i=>⟨[(1, .v (.sl (w.map Zp))),(2, .p 1000 0 0),(7,E' i)],[(1000,⟨0,[.v (.sl (gs.map dO)), .v (.sl (vs.map cz)), .v (.sl (es.map c9.pv))],false,none⟩)],_⟩) (fun i=>i<=vs.length/\ ∀j,j<i->fM (vs.getD j []) (w.getD j 0) (dV oq (vs.getD j []))=true) 0 (fun _=>aD _) ⟨aO _,fun j hj=>oO⟩ ?_ ?_
 ·exact lE
 ·rintro i ⟨hi,hall⟩ R hR
  by_cases hlt:i<vs.length
  ·have e1:=getD_map cz vs [] hlt;have e2:=getD_map Zp w 0 (i:=i) oO;obtain⟨b1,b2⟩:=hv _ (au [] hlt);have kw:=hw _ (au 0 (show i<w.length by omega))
   have hgo:=fun h=>hR (i+1) ⟨oO,h⟩ oO
   have hbad:=fun h: ¬fM (vs.getD i []) (w.getD i 0) (dV oq (vs.getD i []))=true=>kS (p:=fun i=>fM (vs.getD i []) (w.getD i 0) (dV oq (vs.getD i []))) hlt (dn.2 h)
   have hnx:fM (vs.getD i []) (w.getD i 0) (dV oq (vs.getD i []))=true-> ∀j,j<i+1->fM (vs.getD j []) (w.getD j 0) (dV oq (vs.getD j []))=true:=fun h j hj=>by
    by_cases hji:j<i
    ·exact hall j hji
    ·obtain rfl:j=i:=oO;exact h
   rw[<-tY]at hbad;clear hR hall hm;have hc:=Ch (vs.getD i []) b1 hoV.1 kw;generalize hp:fM (vs.getD i []) (w.getD i 0) (dV oq (vs.getD i []))=p at*;generalize vs.getD i []=b at*;generalize w.getD i 0=x at*;simp only[cz]at e1 hc;simp only[Zp,cI,fQ]at e2 hc;cases p
   ·rw[hbad (by simp)]
    exact xi (aN @l2 (aN @l5 (aN @e1 @e2))) @hor @hc
   ·have hgo:=hgo (hnx rfl);exact uZ (aN @l2 (aN @l5 (aN @e1 @e2))) @hgo @hor @hc
  ·obtain rfl:i=vs.length:=oO;have hg:tY oq vs w=true:=lu fun j hj=>hall j hj
   rw[hg,cq];have hm:=hm hg;clear hR hall hv hw hor hr;refine m9 (aN @l4 @l5) @hm ?_;refine ak (α:=Nat) (fun i=>es.length-i) (fun i=>⟨[(2, .p 1000 0 0),(8, .v (.sl (L.map .s))),(10,E' i)],[(1000,⟨0,[.v (.sl (gs.map dO)), .v (.sl (vs.map cz)), .v (.sl (es.map c9.pv))],false,none⟩)],_⟩) (fun i=>i<=es.length/\ ∀j,j<i->L.getD j []=(es.getD j fJ).tgt) 0 (fun _=>aD _) ⟨aO _,fun j hj=>oO⟩ ?_ ?_
   ·exact lE
   ·rintro i ⟨hi,hall⟩ R hR
    by_cases hlt:i<es.length
    ·have e1:=getD_map c9.pv es fJ hlt;have e2:=getD_map PV.s L [] (i:=i) oO;have hgo:=fun h=>hR (i+1) ⟨oO,h⟩ oO
     have hnx:L.getD i []=(es.getD i fJ).tgt-> ∀j,j<i+1->L.getD j []=(es.getD j fJ).tgt:=fun h j hj=>by
      by_cases hji:j<i
      ·exact hall j hji
      ·obtain rfl:j=i:=oO;exact h
     have hbad: ¬L.getD i []=(es.getD i fJ).tgt->decide (L=es.map (·.tgt))=false:=fun h=>bu fun g=>h (by rw[g];simp[b9,hlt])
     clear hR hall;generalize es.getD i fJ=q at*;generalize L.getD i []=x at*;obtain⟨g,t,ts⟩:=q;simp only[c9.pv]at e1 hbad hnx
     by_cases hxt:x=t
     ·have hgo:=hgo (hnx hxt);have e3:(x==t)=true:=by simpa using hxt
      exact jr (aN @l3 (aN @l4 (aN @e1 (aN @e2 @e3)))) @hgo
     ·have e3:(x==t)=false:=by simpa using hxt
      rw[hbad hxt];exact fP (aN @l3 (aN @l4 (aN @e1 (aN @e2 @e3))))
    ·obtain rfl:i=es.length:=oO;rw[aU (IT hL hall)];exact fP @l4
theorem Di {i:Nat} {n:Bytes} (hv:vs.all aa=true) (hn:aa n=true) (h0:n≠[]) (hi:i<=2147483647) (hl:vs.length<1000000) (hsd:sd.length<1000000):aE 47 [T vs sd i, .s n] (lB vs sd i (ij vs sd i n)):=by
 have h1:=qI vs sd i hl;rw[tV hv hi]at h1;have h3:=aH n;rw[hn]at h3;have hb:(n==([]:Bytes))=false:=by simpa using h0
 have h2:=F8 (sd:=sd) hv hn (zU hn h0) hi hl hsd;generalize ij vs sd i n=r at*
 cases r with
 |ok x=>
  unfold lB at*;refine eW call47 func47 ?_;exact wO @hb @h1 @h3 @h2 oT
 |error e=>
  unfold lB at*;refine eW call47 func47 ?_;exact wO @hb @h1 @h3 @h2 oT
theorem HI {s:cG} (hp:u7 c sl s) (hnt: ∀q∈s.eqs,q.terms≠[]) {i:Nat} (hv:vs.all aa=true) (hi:i<=2147483647) (hl:vs.length<1000000) (hsd:sd.length<1000000):
  aE 124 [.agg [.s c, .s sl],s.pv,T vs sd i] (CJ s vs sd (i+s.vars.length) (iO (bj s.groups) c sl vs sd s.vars i [])):=by
 have hbo:=pB hp;have hr:=hp.r;have hb:=hp.g.v;have nv:=hp.g.nv;have ho:=ua hp.g;have hIm: ∀ms,iO (bj s.groups) c sl vs sd s.vars i []= .ok ms->aE 245 [s.pv, .sl (ms.map Zp)] (.tup [.sl ((oJ s ms).map .s),E 0]):=fun ms hR=>by
  obtain⟨f1,f2,f3,f4⟩:=pq hp hv hi hl hR;exact OU hp.g hnt f1 f4 (Tt hp.g f1 fun x hx=>by
   obtain⟨j,hj,rfl⟩:=ia hx;have:=(po (f2 j oO)).1;rw[b9,cb hj]at this;exact jn (jn this (C5 hp.r (dc hp.g.g).2 (hp.g.v _ (au [] oO)).2)) (yw oC oC))
 have vo:=(dc hp.g.g).1;obtain⟨F,hF⟩: ∃F:List Int->List Bytes,F=fun ms=>oJ s ms:=⟨_,rfl⟩
 have hcP: ∀j R,CJ s vs sd j R=match R with| .ok ms=> .tup [.sl (ms.map Zp), .sl ((F ms).map .s),T vs sd j,E 0]| .error e=> .tup [.sl [], .sl [],T [] [] 0,E e]:=fun j R=>by rw[hF];cases R<;>rfl
 have hIm: ∀ms,iO (bj s.groups) c sl vs sd s.vars i []= .ok ms->aE 245 [s.pv, .sl (ms.map Zp)] (.tup [.sl ((F ms).map .s),E 0]):=fun ms h=>by rw[hF];exact hIm ms h
 rw[hcP];clear hcP hF hp;obtain⟨gs,us,es⟩:=s;simp only at hb nv hIm ho vo hbo⊢;generalize bj gs=o at*;have l2:(us.map cz).length=us.length:=aG ..;have l3:(us.map fun b=>N (lM o c sl b)).length=us.length:=aG ..
 obtain⟨R0,hR0⟩: ∃R0,R0=iO o c sl vs sd (us.drop 0) i []:=⟨_,rfl⟩;rw[show iO o c sl vs sd us i []=iO o c sl vs sd (us.drop 0) i []from rfl,<-hR0]
 rw[show iO o c sl vs sd us i []=iO o c sl vs sd (us.drop 0) i []from rfl,<-hR0]at hIm
 simp only[cG.pv]at hbo hIm⊢
 by_cases hpos:0<us.length
 rotate_left
 ·obtain rfl:us=[]:=eH.1 oO;rw[List.drop_nil,iO]at hR0;subst hR0;have hIm:=hIm [] rfl;simp only[ca]at hIm hbo⊢;refine eW call124 func124 ?_;exact Tm @hbo @hIm
 refine eW call124 func124 ?_;refine m9 @l2 @hbo ?_;refine aj ?_;have e1:=getD_map cz us [] hpos;have e2:=getD_map (fun b=>N (lM o c sl b)) us [] hpos
 have kb:=hb _ (au [] hpos);have hdo:=fun hi z (h:iS o c sl vs sd (us.getD 0 []) i= .ok z)=>(tQ (i:=i) hr vo kb hv hl hi h).2
 have hcs:(us.getD 0 []=[]/\ ∀ _:i<=2147483647,aE 47 [T vs sd (i:Nat),N (lM o c sl (us.getD 0 []))] (match iS o c sl vs sd (us.getD 0 []) i with
   | .ok z=> .tup [.s (zb z),T vs sd ((i+1:Nat):Int),E 0]
   | .error e=> .tup [.s [],T [] [] 0,E e])/\ ∀z,iS o c sl vs sd (us.getD 0 []) i= .ok z->zs z=false)\/(us.getD 0 []≠[]/\ ∀ _:i<=2147483647,aE 244 [T vs sd (i:Nat),N (lM o c sl (us.getD 0 []))] (j9 vs sd i (iS o c sl vs sd (us.getD 0 []) i))):=by
  by_cases h:us.getD 0 []=[]
  ·refine .inl ⟨h,fun hi=> ?_⟩
   have hbl:=Di (sd:=sd) (n:=o) hv vo (ho (by rw[<-h];exact au [] hpos)) hi hl hsd
   rw[lM,ah h,dN vo];unfold iS;rw[ah h]
   cases hd:ij vs sd (i) o with
   |error e=>
    rw[hd]at hbl;exact⟨hbl,fun z hz=>by cases hz⟩
   |ok x=>
    have hx:=(iX hv vo hl hi hd).1;rw[hd]at hbl;refine⟨?_,fun z hz=>by dsimp only at hz;injection hz with hz;subst hz;simp[zs]⟩
    dsimp only;rw[show zb (num x:Int)=x from by rw[zb,Int.natAbs_natCast];exact fk hx]
    exact hbl
  ·have hm:=ue hr kb.1 h kb.2;refine .inr ⟨h,fun hi=> ?_⟩
   rw[lM,af h,iS,af h];exact Ap (vs:=vs) (sd:=sd) (i:=i) hv hi hl hsd hm.1 hm.2
 rw[aY [] hpos,iO]at hR0;clear kb;generalize us.getD 0 []=u at*;simp only[cz]at e1;generalize lM o c sl u=M at*;rcases hcs with⟨hu,hg⟩|⟨hu,hg⟩
 all_goals
  have hg:=hg hi;have hbb:(u==([]:Bytes))=decide (u=[]):=by rw[cX,eD,bw]
  first|rw[aU hu]at hbb|rw[bu hu]at hbb
  cases hsg:iS o c sl vs sd u i with
  |error e=>
   rw[hsg]at hg hR0;simp only[j9]at hg hR0;have he:(e !=0)=true:=by rcases qw hsg with rfl|rfl<;>rfl
   subst hR0;clear hIm
   first
    |have hg:=hg.1
    |skip
   exact jE (aN @l2 (aN @l3 (aN @e1 (aN @e2 (aN @he @hbb))))) @hg
  |ok z=>
   have hsi:i+(0+1)<=2147483647:=hdo hi z hsg;rw[hsg]at hg hR0;simp only[j9]at hg hR0
   first
    |(have hzz:=hg.2 z rfl
      have hg:=hg.1)
    |have hzz:zs z=zs z:=rfl
   refine iy (aN @l2 (aN @l3 (aN @e1 (aN @e2 @hbb)))) @hg ?_;obtain⟨nm,hnm⟩: ∃nm,nm=(if u=[]then 1056 else 1055):=⟨_,rfl⟩
   first|rw[ah hu]at hnm|rw[af hu]at hnm
   clear e1 e2 hg hdo hu hbb;refine ak (α:=(Nat×List Int)⊕List Int) (fun p=>match p with| .inl p=>us.length-p.1| .inr _=>0) (fun p=>match p with| .inl p=>⟨[(4, .p 1001 0 0),(5, .p 1002 0 0),(8, .p 1005 0 0),(10, .v (.sl (us.map fun b=>N (lM o c sl b)))),(13, .rs nm p.1 0 (p.1+1) 2),(14,E' (p.1+1))],[(1001,⟨0,[.v (.sl (gs.map dO)), .v (.sl (us.map cz)), .v (.sl (es.map c9.pv))],false,none⟩),(1002,⟨0,[.v (.sl (vs.map .s)), .v (.s sd), .v (.i .i64 ((i+(p.1+1):Nat):Int))],false,none⟩),(1005,⟨0,[.sn, .v (.s []), .v (.i .i64 0)],false,some 41⟩),(nm,⟨p.1,aT Zp p.2,true,some 94⟩)],nm+5⟩| .inr ms=>⟨(13, .v (.sl (ms.map Zp)))::[(4, .p 1001 0 0),(5, .p 1002 0 0),(8, .p 1005 0 0),(10, .v (.sl (us.map fun b=>N (lM o c sl b)))),(14,E' us.length)],[(1001,⟨0,[.v (.sl (gs.map dO)), .v (.sl (us.map cz)), .v (.sl (es.map c9.pv))],false,none⟩),(1002,⟨0,[.v (.sl (vs.map .s)), .v (.s sd), .v (.i .i64 ((i+us.length:Nat):Int))],false,none⟩),(1005,⟨0,[.sn, .v (.s []), .v (.i .i64 0)],false,some 41⟩)],nm+5⟩) (fun p=>match p with| .inl p=>p.1+1<us.length/\p.2.length=p.1+1/\i+(p.1+1)<=2147483647/\R0=iO o c sl vs sd (us.drop (p.1+1)) (i+(p.1+1)) p.2| .inr ms=>R0= .ok ms) (if 1<us.length then .inl (0,[z])else .inr [z]) (fun p=>by cases p<;>(show _<=nm+5;rw[hnm];exact dr rfl)) ?_ ?_ ?_<;>subst hnm
   ·by_cases h:1<us.length
    ·rw[ah h];exact⟨h,rfl,hsi,hR0⟩
    ·rw[af h];rw[iu oO]at hR0;exact hR0
   ·by_cases h:1<us.length
    ·rw[ah h];refine lG ?_;all_goals exact⟨by first|rfl|(rw[<-hzz];rfl),fun c hc=>cv hc⟩
    ·rw[af h];have h1:us.length=1:=oO
     first
      |rw[<-hzz]
      |skip
     refine leZ rX (ver:=0) (len:=1) (gr:=true) (el:=some 94) (l:=[z]) rfl (by simp[aC,aT,Zp,cI,fQ,PV.cells]) rfl ?_ ?_
     ·simp[dw,aS,AV.bd,h1]
     ·simp[du,aC,AV.bd,h1]
   ·clear hzz hR0 hsi;rintro(⟨j,ms⟩|ms) hok R hR
    ·obtain⟨hj,hlm,hij,hR0⟩:=hok;simp only at hj hlm hij hR0;have q1:=cf rX ms;have q2:=ct rX ms;rw[hlm]at q1 q2;have e1:=getD_map cz us [] hj;have e2:=getD_map (fun b=>N (lM o c sl b)) us [] hj
     have kb:=hb _ (au [] hj);have hdo:=fun hi z (h:iS o c sl vs sd (us.getD (j+1) []) (i+(j+1))= .ok z)=>(tQ (i:=(i+(j+1))) hr vo kb hv hl hi h).2
     have hcs:(us.getD (j+1) []=[]/\ ∀ _:(i+(j+1))<=2147483647,aE 47 [T vs sd ((i+(j+1)):Nat),N (lM o c sl (us.getD (j+1) []))] (match iS o c sl vs sd (us.getD (j+1) []) (i+(j+1))with
       | .ok z=> .tup [.s (zb z),T vs sd (((i+(j+1))+1:Nat):Int),E 0]
       | .error e=> .tup [.s [],T [] [] 0,E e])/\ ∀z,iS o c sl vs sd (us.getD (j+1) []) (i+(j+1))= .ok z->zs z=false)\/(us.getD (j+1) []≠[]/\ ∀ _:(i+(j+1))<=2147483647,aE 244 [T vs sd ((i+(j+1)):Nat),N (lM o c sl (us.getD (j+1) []))] (j9 vs sd (i+(j+1)) (iS o c sl vs sd (us.getD (j+1) []) (i+(j+1))))):=by
      by_cases h:us.getD (j+1) []=[]
      ·refine .inl ⟨h,fun hi=> ?_⟩
       have hbl:=Di (sd:=sd) (n:=o) hv vo (ho (by rw[<-h];exact au [] hj)) hi hl hsd
       rw[lM,ah h,dN vo];unfold iS;rw[ah h]
       cases hd:ij vs sd ((i+(j+1))) o with
       |error e=>
        rw[hd]at hbl;exact⟨hbl,fun z hz=>by cases hz⟩
       |ok x=>
        have hx:=(iX hv vo hl hi hd).1;rw[hd]at hbl;refine⟨?_,fun z hz=>by dsimp only at hz;injection hz with hz;subst hz;simp[zs]⟩
        dsimp only;rw[show zb (num x:Int)=x from by rw[zb,Int.natAbs_natCast];exact fk hx]
        exact hbl
      ·have hm:=ue hr kb.1 h kb.2;refine .inr ⟨h,fun hi=> ?_⟩
       rw[lM,af h,iS,af h];exact Ap (vs:=vs) (sd:=sd) (i:=(i+(j+1))) hv hi hl hsd hm.1 hm.2
     rw[aY [] hj,iO]at hR0;clear kb;generalize us.getD (j+1) []=u at*;simp only[cz]at e1;generalize lM o c sl u=M at*;rcases hcs with⟨hu,hg⟩|⟨hu,hg⟩
     all_goals
      have hg:=hg hij;have hbb:(u==([]:Bytes))=decide (u=[]):=by rw[cX,eD,bw]
      first|rw[aU hu]at hbb|rw[bu hu]at hbb
      cases hsg:iS o c sl vs sd u (i+(j+1))with
      |error e=>
       rw[hsg]at hg hR0;simp only[j9]at hg hR0;have he:(e !=0)=true:=by rcases qw hsg with rfl|rfl<;>rfl
       subst hR0;clear hR hIm
       first
        |have hg:=hg.1
        |skip
       exact jE (aN @l2 (aN @l3 (aN @e1 (aN @e2 (aN @he (aN @q1 (aN @q2 @hbb))))))) @hg
      |ok y=>
       have hsi:i+(j+1+1)<=2147483647:=hdo hij y hsg;rw[hsg]at hg hR0;simp only[j9]at hg hR0
       first
        |(have hzz:=hg.2 y rfl
          have hg:=hg.1)
        |have hzz:zs y=zs y:=rfl
       by_cases hlt:j+1+1<us.length
       ·have hgo:=hR (.inl (j+1,ms++[y])) ⟨hlt,by simp[hlm],hsi,hR0⟩ (by simp only;omega)
        simp only[u6]at hgo;rw[hzz]at hgo;clear hR;refine iy (aN @l2 (aN @l3 (aN @e1 (aN @e2 (aN @q1 (aN @q2 @hbb)))))) @hg ?_;refine hgo _ ?_;refine lG ?_;all_goals exact⟨oO,fun c hc=>by rcases hc with hc|rfl|rfl<;>first|exact cv hc|rfl⟩
       ·rw[iu oO]at hR0;have hgo:=hR (.inr (ms++[y])) hR0 (by simp only;omega)
        clear hR;refine iy (aN @l2 (aN @l3 (aN @e1 (aN @e2 (aN @q1 (aN @q2 @hbb)))))) @hg ?_;refine hgo _ ?_;have h1:us.length=j+1+1:=oO;refine leZ rX (ver:=j+1) (len:=j+1+1) (gr:=true) (el:=some 94) (l:=ms++[y]) rfl (by simp[aC,u6,hzz]) (by simp[hlm]) ?_ ?_
        ·simp[dw,aS,AV.bd,h1]
        ·simp[du,aC,AV.bd,h1]
         try omega
    ·have hR0:R0= .ok ms:=hok;subst hR0;have hIm:=hIm ms rfl;clear hR;exact jE @l2 @hIm
theorem LB {s:cG} (hp:u7 c sl s) (hbd:Qn s) (h00:s.eqs≠[]) (hnt: ∀q∈s.eqs,q.terms≠[]) {m o:Bytes} (hg1:s.groups=[(m,o)]) {ctx:Bytes} (hx:ctx.length<=100000) {w:List Int} (hw6:w.length<1000000) (hw: ∀x∈w,x.natAbs<da) (hW:tY (bj s.groups) s.vars w=true->WS s w) {a:Int} (hl:vs.length<1000000) (hsd:sd.length<1000000):
  aE 50 [.agg [.s c, .s sl], .s ctx,s.pv, .sl (w.map Zp),C0, .sl [],T vs sd a] (Sp vs sd (qd c sl ctx s w vs sd a)):=by
 have hr:=hp.r;have hs:=hp.g;have hn:=oR hp;have hv1:=ji (w.map fQ) (by rw[aG];omega)
 rw[Qg,l8 hw]at hv1;have hgd:=qI vs sd a hl;have hh:=fun h=>SH hs hnt (w:=w) h hw hW
 have nv:=hs.nv;have hv:=hs.v;have l5:(w.map Zp).length=w.length:=aG ..;have hCo:=fun(g1:vs.all aa=true) (i:Nat) (hi:i<=2147483647)=>HI hp hnt (vs:=vs) (sd:=sd) (i:=i) g1 hi hl hsd
 have hRe:=fun(f3:w.length=s.vars.length) (f4:tY (bj s.groups) s.vars w=true) (ms:List Int) (ch:Nat) (hml:ms.length=s.vars.length) (hch:ch<num c)=>LC hp f3 hml hch f4
 have hMf:=fun(g1:vs.all aa=true) (i:Nat) (hi:i<=2147483647) (ms:List Int)=>pq hp (sd:=sd) (i:=i) g1 hi hl (ms:=ms)
 have hCh:=fun(fs:List Bytes)=>sj hp hbd hx (fs:=fs)
 have hB:=fun(g1:vs.all aa=true) (i:Nat) (hi:i<=2147483647)=>FP (vs:=vs) (a:=i) sd (tV g1 hi) hl
 have hmI:=NH hs;have hor:=qL s (by have:=hs.ng;omega)
 have hoV:=dc hs.g;have hii: ∀ms:List Int,oJ s ms≠[]/\(oJ s ms).length=s.eqs.length:=fun ms=>by
  have:=rh s ms;exact⟨fun h=>h00 (eH.1 (by rw[<-this,h];rfl)),this⟩
 unfold qd wN;obtain⟨gs,us,es⟩:=s;simp only at hg1;subst hg1;simp only at nv hv hh hRe hii;simp only[cG.pv,bV,ca,dO]at hn hh hCo hRe hCh hor⊢;have l2:(us.map cz).length=us.length:=aG ..;obtain⟨oq,hoq⟩: ∃oq,oq=bj [(m,o)]:=⟨_,rfl⟩;simp only[<-hoq]at hh hCo hRe hMf hor hoV⊢
 cases hg:eT vs a with
 |false=>
  rw[hg]at hgd;clear hCo hRe hMf hCh hB hii hh;simp only[cC,aB,ne_eq,show¬(3:Int)=0 by decide,my]
  refine eW call50 func50 ?_;exact zu3 @hn @hv1 @hgd
 |true=>
  rw[hg]at hgd;obtain⟨g1,g2,g3⟩:=tW hg;obtain⟨i0,rfl⟩: ∃i:Nat,a=i:=⟨a.toNat,oO⟩;simp only[cr,bM,az,Int.toNat_natCast];have hCo:=hCo g1;have hMf:=hMf g1;have hB:=hB g1
  by_cases hwl:w.length=us.length
  ·rw[af (show¬w.length≠us.length by simpa using hwl)]
   have hh:=hh hwl;have hI: ∀ _:True,((w.length:Int) !=us.length)=false:=fun _=>by rw[hwl];simp
   refine eW call50 func50 ?_;refine tj (aN @l2 (aN @l5 (hI oT))) @hn @hv1 @hgd oT ?_;refine aj ?_;refine dH (aN @l2 (aN @l5 (hI oT))) ?_;refine ak (α:=Nat) (fun i=>us.length-i) (fun i=>⟨[(1, .v (.s ctx)),(3, .v (.sl (w.map Zp))),(5, .v (.sl [])),(7, .p 1000 0 0),(9, .p 1001 0 0),(11, .p 1002 0 0),(13, .p 1003 0 0),(14, .p 1004 0 0),(15, .p 1005 0 0),(17, .p 1009 0 0),(18, .p 1010 0 0),(22,E' i)],[(1000,⟨0,[.v (.s c), .v (.s sl)],false,none⟩),(1001,⟨0,[.v (.sl [G m o]), .v (.sl (us.map cz)), .v (.sl (es.map c9.pv))],false,none⟩),(1002,⟨0,[.v (.sl []), .v (.sl [])],false,none⟩),(1003,⟨0,[.v (.sl (vs.map .s)), .v (.s sd), .v (.i .i64 ((i0:Nat):Int))],false,none⟩),(1004,⟨0,[.v (.s []), .sn, .sn, .sn],false,some 48⟩),(1005,⟨0,[.sn, .v (.s []), .v (.i .i64 0)],false,some 41⟩),(1009,⟨0,[.v (.s []), .sn, .sn, .sn],false,some 48⟩),(1010,⟨0,[.sn, .v (.s []), .v (.i .i64 0)],false,some 41⟩)],_⟩) (fun i=>i<=us.length/\ ∀j,j<i->fM (us.getD j []) (w.getD j 0) (dV oq (us.getD j []))=true) 0 (fun _=>aD _) ⟨aO _,fun j hj=>oO⟩ ?_ ?_
   ·exact lE
   ·rintro i ⟨hi,hlts⟩ R hR
    by_cases hlt:i<us.length
    ·have e1:=getD_map cz us [] hlt;have e2:=getD_map Zp w 0 (i:=i) oO;obtain⟨b1,b2⟩:=hv _ (au [] hlt);have kw:=hw _ (au 0 (show i<w.length by omega))
     have hgo:=fun h=>hR (i+1) ⟨oO,h⟩ oO
     have hbad:=fun h: ¬fM (us.getD i []) (w.getD i 0) (dV oq (us.getD i []))=true=>kS (p:=fun i=>fM (us.getD i []) (w.getD i 0) (dV oq (us.getD i []))) hlt (dn.2 h)
     have hnx:fM (us.getD i []) (w.getD i 0) (dV oq (us.getD i []))=true-> ∀j,j<i+1->fM (us.getD j []) (w.getD j 0) (dV oq (us.getD j []))=true:=fun h j hj=>by
      by_cases hji:j<i
      ·exact hlts j hji
      ·obtain rfl:j=i:=oO;exact h
     rw[<-tY]at hbad;clear hR hlts hh hCo hRe hMf hCh hB hii;have hc:=Ch (us.getD i []) b1 hoV.1 kw;generalize hp1:fM (us.getD i []) (w.getD i 0) (dV oq (us.getD i []))=p at*;generalize us.getD i []=b at*;generalize w.getD i 0=x at*;simp only[cz]at e1 hc;simp only[Zp,cI,fQ]at e2 hc;cases p
     ·rw[hbad (by simp)]
      simp only[cC,aB,ne_eq,show¬(2:Int)=0 by decide,my]
      exact xi (aN @l2 (aN @l5 (aN @e1 @e2))) @hor @hc
     ·have hgo:=hgo (hnx rfl);exact uZ (aN @l2 (aN @l5 (aN @e1 @e2))) @hgo @hor @hc
    ·obtain rfl:i=us.length:=oO;have hg:tY oq us w=true:=lu fun j hj=>hlts j hj
     rw[hg,cq]at hh;rw[hg];simp only[cr,bM,az];clear hR hlts;have hRe:=hRe hwl hg
     cases hq:xr ⟨[(m,o)],us,es⟩ w with
     |false=>
      rw[hq]at hh;simp only[cC,aB,ne_eq,show¬(18:Int)=0 by decide,my]
      clear hCo hRe hMf hCh hB hii;exact abc (aN @l5 @hwl) @hh
     |true=>
      rw[hq]at hh;simp only[cr,bM,az,ne_eq,uX];obtain⟨R0,hR0⟩: ∃R0,R0=qg c sl ctx ⟨[(m,o)],us,es⟩ w vs sd 64 i0:=⟨_,rfl⟩;rw[<-hR0];refine m9 (aN @l5 @hwl) @hh ?_;refine aj ?_;repeat' first|simp only[go_sem,seval,l5,hwl]|refine cV SG ?_|refine oE ?_|apply xX<;>intro hc
      refine ak (α:=Nat×Nat) (fun p=>64-p.1) (fun p=>⟨[(1, .v (.s ctx)),(3, .v (.sl (w.map Zp))),(5, .v (.sl [])),(7, .p 1000 0 0),(9, .p 1001 0 0),(11, .p 1002 0 0),(13, .p 1003 0 0),(14, .p 1004 0 0),(15, .p 1005 0 0),(17, .p 1009 0 0),(18, .p 1010 0 0),(29,E' p.1)],[(1000,⟨0,[.v (.s c), .v (.s sl)],false,none⟩),(1001,⟨0,[.v (.sl [G m o]), .v (.sl (us.map cz)), .v (.sl (es.map c9.pv))],false,none⟩),(1002,⟨0,[.v (.sl []), .v (.sl [])],false,none⟩),(1003,⟨0,[.v (.sl (vs.map .s)), .v (.s sd), .v (.i .i64 ((p.2:Nat):Int))],false,none⟩),(1004,⟨0,[.v (.s []), .sn, .sn, .sn],false,some 48⟩),(1005,⟨0,[.sn, .v (.s []), .v (.i .i64 0)],false,some 41⟩),(1009,⟨0,[.v (.s []), .sn, .sn, .sn],false,some 48⟩),(1010,⟨0,[.sn, .v (.s []), .v (.i .i64 0)],false,some 41⟩)],_⟩) (fun p=>p.1<=64/\p.2<=2147483647/\R0=qg c sl ctx ⟨[(m,o)],us,es⟩ w vs sd (64-p.1) p.2) (0,i0) (fun _=>aD _) ⟨aO _,oO,hR0⟩ ?_ ?_
      ·exact lE
      ·clear hn hv1 hgd hh hR0;rintro⟨k,i⟩ ⟨hk,hi,hR0⟩ R hR;simp only at hk hi hR0
       by_cases hlt:k<64
       ·obtain⟨q,hq⟩: ∃q,64-k=q+1:=⟨63-k,oO⟩;rw[hq,qg]at hR0;simp only[<-hoq]at hR0;have hCo:=hCo i hi
        cases hM:iO oq c sl vs sd us i []with
        |error e=>
         simp only[hM]at hR0 hCo;subst hR0;have he:(e !=0)=true:=by rcases uf hM with rfl|rfl<;>rfl
         simp only[CJ]at hCo;clear hR hRe hMf hCh hB hii;exact jE @he @hCo
        |ok ms=>
         simp only[hM]at hR0 hCo;simp only[CJ]at hCo;obtain⟨m1,m2,m3,m4⟩:=hMf i hi ms hM;have hii:=hii ms;have hCh:=hCh (oJ ⟨[(m,o)],us,es⟩ ms) hii.1 hii.2 (fun x hx=>(hmI _ x hx).1) (bH.2 fun x hx=>(hmI _ x hx).2)
         have hlc:=wK (xp ctx ⟨[(m,o)],us,es⟩ (oJ ⟨[(m,o)],us,es⟩ ms)) hr.c2;have hRe:=hRe ms _ m1 hlc m2;generalize gK (xp ctx ⟨[(m,o)],us,es⟩ (oJ ⟨[(m,o)],us,es⟩ ms)) c=z at*;have hB:=hB (i+us.length) m3;generalize oJ ⟨[(m,o)],us,es⟩ ms=L at*;unfold xz at hRe
         by_cases hin:vL oq c sl us (dA oq us ms w z)=true
         ·rw[ah hin]at hR0 hRe;subst hR0;generalize dA oq us ms w z=rs at*;clear hR hMf m2 m4 hmI hM;exact z4 @hCo @hB @hCh @hRe
         ·rw[af hin]at hR0 hRe;have hgo:=hR (k+1,i+us.length) ⟨oO,m3,by rw[show 64-(k+1)=q by omega];exact hR0⟩ (by simp only;omega)
          clear hR hMf m2 m4 hmI hM;exact zg4 @hgo @hCo @hB @hCh @hRe
       ·obtain rfl:k=64:=oO;simp only[ic,qg]at hR0;subst hR0;clear hR hRe hCh hCo hMf hB hii;exact z0
  ·rw[ah hwl];clear hCo hRe hMf hCh hB hii hh;simp only[ne_eq,show¬(6:Int)=0 by decide,my,aB]
   have e6:((w.length:Int) !=us.length)=true:=by rw[pQ];omega
   refine eW call50 func50 ?_;exact abd (aN @l2 (aN @l5 @e6)) @hn @hv1 @hgd
