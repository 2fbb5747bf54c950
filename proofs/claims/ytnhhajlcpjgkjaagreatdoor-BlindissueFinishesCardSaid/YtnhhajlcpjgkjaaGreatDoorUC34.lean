/- Part of the proof. -/
import Derived.Test.YtnhhajlcpjgkjaaGreatDoorUC33
set_option linter.all false
set_option maxHeartbeats 16000000
set_option maxRecDepth 100000
namespace Go.Proofs.Tryz
open Go Go.Dom
variable {c ch sl:Bytes} {ls:List (List (Bool×Bytes))} {rs:List (Bool×Bytes)}
abbrev YP:PV:= .agg [.sl [], .s [], .sl []]
abbrev B0:PV:= .agg [.sl [], .sl []]
theorem JQ (hr:si c sl) {s:cK} {gs:List Bytes} (h1:rs.length<1000000) (h2:gs.length<=1000) (h3:ls.length<=1000) (h4: ∀l∈ls,l.length<4611686018427387904) (hf:fJ c s.vars.length ch rs gs ls≠0):
  aE 279 [X0 c sl s,uL ch rs gs ls] (.tup [YP,B0,E (fJ c s.vars.length ch rs gs ls)]):=by
 have hfo:=BH (c:=c) (sl:=sl) hr.vc s ch rs gs ls h1 h2 h3 h4;have hb:(fJ c s.vars.length ch rs gs ls==0)=false:=by simpa using hf
 generalize fJ c s.vars.length ch rs gs ls=e at*;obtain⟨gq,vs,es⟩:=s;simp only[X0,uL]at hfo⊢;refine eW call279 func279 ?_;repeat' first|simp only[go_sem,seval,hb]|refine cP hfo ?_|refine oE ?_|apply xX<;>intro hc
 all_goals skip
abbrev rK:Bytes:=[100,111,109,105,110,111,32,112,114,111,111,102]
abbrev uJ:Bytes:=[99,111,110,116,101,120,116]
abbrev GK:Bytes:=[102,111,114,109,117,108,97]
abbrev NG:Bytes:=[102,105,114,115,116]
def xQ (ctx:Bytes) (s:cK) (fs:List Bytes):Bytes:=gb (fw (lZ (fw (kX rK) uJ ctx) s) GK []) NG fs
theorem Fw (s:cK) (x:PV) (n:Bytes):aE 280 [X0 c sl s,B0, .s n] (.b true):=by
 obtain⟨gq,vs,es⟩:=s;simp only[X0];refine eW call280 func280 ?_;exact z0
noncomputable def oi (s:cK) (ch:Bytes) (rs:List (Bool×Bytes)):List Bytes:=s.eqs.map fun q=>bR (fP s.groups ch rs q)
theorem Au {nv:Nat} {gs:List Bytes} (h:fJ c nv ch rs gs ls=0):gs=[]/\ls=[]:=by
 unfold fJ at h
 split at h
 ·exact aM h oC
 ·split at h
  ·exact aM h oC
  ·rename_i hm;exact⟨gQ fun h=>hm (.inr (.inl h)),gQ fun h=>hm (.inr (.inr h))⟩
theorem jR (l:List (Bool×Bytes)) (hl:l.length<4611686018427387904):aE 119 [.sl (l.map cU)] (.b (l.all cr)):=by
 have l5:(l.map cU).length=l.length:=aL ..;refine eW call119 func119 ?_;refine qY ?_;refine ak (α:=Nat) (fun i=>l.length-i) (fun i=>⟨[(0, .v (.sl (l.map cU))),(3,E' i)],[],_⟩) (fun i=>i<=l.length/\(l.drop i).all cr=l.all cr) 0 (fun _=>aD _) ⟨aR _,rfl⟩ ?_ ?_
 ·exact lE
 ·rintro i ⟨hi,hf⟩ R hR;rw[<-hf]
  by_cases hlt:i<l.length
  ·have e1:=getD_map cU l fh hlt;have hgo:=hR (i+1);rw[<-hf]at hgo;rw[bc fh hlt,List.all_cons]at hgo⊢;obtain⟨x,hx⟩: ∃x,x=l.getD i fh:=⟨_,rfl⟩;rw[<-hx]at e1 hgo⊢;clear hx hf hR;obtain⟨n,a⟩:=x;have hv:=jQ n a;have e:cr (n,a)=(aa a&& !(n&&a==[])):=rfl;rw[e]at hgo⊢;clear e;simp only[cU]at e1;generalize (aa a&& !(n&&a==[]))=b at*;cases b
   ·repeat' first|simp only[go_sem,seval,l5,e1]|refine cP hv ?_|refine oE ?_|apply xX<;>intro hc
    all_goals simp
   ·have hgo:=hgo ⟨oO,by simp⟩ oO
    exact kp (aN @l5 @e1) @hgo @hv
  ·obtain rfl:i=l.length:=oO;rw[dn];exact gU @l5
theorem oG (l:List Bytes) (hl:l.length<4611686018427387904):aE 249 [.sl (l.map .s)] (.b (l.all aa)):=by
 have l5:(l.map PV.s).length=l.length:=aL ..;refine eW call249 func249 ?_;refine qY ?_;refine ak (α:=Nat) (fun i=>l.length-i) (fun i=>⟨[(0, .v (.sl (l.map .s))),(3,E' i)],[],_⟩) (fun i=>i<=l.length/\(l.drop i).all aa=l.all aa) 0 (fun _=>aD _) ⟨aR _,rfl⟩ ?_ ?_
 ·exact lE
 ·rintro i ⟨hi,hf⟩ R hR;rw[<-hf]
  by_cases hlt:i<l.length
  ·have e1:=getD_map PV.s l ([]:Bytes) hlt;have hgo:=hR (i+1);rw[<-hf]at hgo;rw[bc ([]:Bytes) hlt,List.all_cons]at hgo⊢;generalize l.getD i []=a at*;clear hf hR;have hv:=aI a;generalize aa a=b at*;cases b
   ·repeat' first|simp only[go_sem,seval,l5,e1]|refine cP hv ?_|refine oE ?_|apply xX<;>intro hc
    all_goals simp
   ·have hgo:=hgo ⟨oO,by simp⟩ oO
    exact kp (aN @l5 @e1) @hgo @hv
  ·obtain rfl:i=l.length:=oO;rw[dn];exact gU @l5
def vL (b:Bytes) (i:Nat):eD:=⟨b,i,false,[1]⟩
structure aaw (s:cK):Prop where
 l:s.eqs.length=s.vars.length
 t: ∀i,i<s.eqs.length-> ∃b,(s.eqs.getD i gN).terms=[vL b i]
end Go.Proofs.Tryz
namespace Go.Proofs.Tryz
open Go Go.Dom Go.Num
theorem qa {n i:Nat} {p:Nat->Bool} (hi:i<n) (h:p i=false):(List.range n).all p=false:=by
 rw[dy];intro g;have:=bH.1 g i (fS.2 hi);rw[h]at this;cases this
theorem pD {n:Nat} {p:Nat->Bool} (h: ∀i,i<n->p i=true):(List.range n).all p=true:=by
 rw[bH];intro i hi;exact h i (fS.1 hi)
theorem PF {L:List Bytes} {es:List dr} (hl:L.length=es.length) (h: ∀j,j<es.length->L.getD j []=(es.getD j gN).tgt):L=es.map (·.tgt):=by
 refine tL (by simpa using hl) fun j h1 h2=> ?_
 have h2:j<es.length:=by simpa using h2
 have:=h j h2;rw[ca,ca,bZ h1,bZ h2]at this;simpa using this
end Go.Proofs.Tryz
namespace Go.Proofs.Tryz
open Go Go.Dom Go.Num
variable {M i:Nat} {n sd x:Bytes} {vs:List Bytes}
def y7 (vs:List Bytes) (sd:Bytes) (i M:Nat):Except Int Int:=
 match kK vs sd i (bR (2*M-1))with
 | .error e=> .error e
 | .ok x=> .ok ((num x:Int)-(M-1:Nat))
theorem Bg (st:Bytes) {c:Bytes} (h:2<=num c):gK st c<num c:=aP _ oO
theorem Q6 {f:Nat->Bytes} {n:Nat}: ∀{k a:Nat},EU f n a k=some x->num x<n/\ ∃b,x=f b:=by
 intro k
 induction k with
 |zero=>intro a h;cases h
 |succ k ih=>
  intro a h;rw[EU]at h
  split at h
  ·rename_i hlt;injection h with h
   subst h;exact⟨hlt,a,rfl⟩
  ·exact ih h
theorem nL (hv:vs.all aa=true) (hn:aa n=true) (hl:vs.length<1000000) (hi:i<=2147483647) (h:kK vs sd i n= .ok x):aa x=true/\num x<num n/\i+1<=2147483647:=by
 unfold kK at h
 split at h
 ·rename_i hiv
  split at h
  ·cases h
  ·rename_i hlt;injection h with h
   subst h;exact⟨bH.1 hv _ (D6 hiv),oO,oO⟩
 ·split at h
  ·cases h
  ·rename_i hs;have hi2:i≠2147483647:=fun e=>hs (.inr e)
   split at h
   ·rename_i y hy;injection h with h
    subst h;obtain⟨h1,b,hb⟩:=Q6 hy;exact⟨by rw[hb];exact xr sd i b (DC hn),h1,oO⟩
   ·cases h
theorem NM {z:Int} (hv:vs.all aa=true) (h1:1<=M) (h2:2*M<dC) (hl:vs.length<1000000) (hi:i<=2147483647) (h:y7 vs sd i M= .ok z):z.natAbs<M/\i+1<=2147483647:=by
 unfold y7 at h
 split at h
 ·cases h
 ·rename_i x hx;obtain⟨-,h3,h4⟩:=nL hv (vB oO) hl hi hx;rw[aY]at h3;injection h with h
  subst h;exact⟨oO,h4⟩
theorem qe {e:Int} (h:kK vs sd i n= .error e):e=2\/e=14:=by
 unfold kK at h
 split at h
 ·split at h
  ·injection h with h;exact .inl h.symm
  ·cases h
 ·split at h
  ·injection h with h;exact .inr h.symm
  ·split at h
   ·cases h
   ·injection h with h;exact .inr h.symm
theorem Km {e:Int} (h:y7 vs sd i M= .error e):e=2\/e=14:=by
 unfold y7 at h
 split at h
 ·rename_i e' he;injection h with h
  subst h;exact qe he
 ·cases h
theorem BR (h:aa x=true):je (num x:Int)=(false,x):=by
 have e:bR (num x)=x:=by have:=dZ h;injection this
 simp[je,zs,zb,e]
end Go.Proofs.Tryz
namespace Go.Proofs.Tryz
open Go Go.Dom Go.Num
def sV (vs:List Bytes) (sd:Bytes) (i:Nat):Except Int Int->PV
 | .ok z=> .tup [Z z,T vs sd (i+1:Nat),E 0]
 | .error e=> .tup [.agg [.b false, .s []],T [] [] 0,E e]
theorem Ae {vs:List Bytes} {sd:Bytes} {i M:Nat} (hv:vs.all aa=true) (hi:i<=2147483647) (hl:vs.length<1000000) (hsd:sd.length<1000000) (h1:1<=M) (h2:3*M<dC):aE 323 [T vs sd i,N M] (sV vs sd i (y7 vs sd i M)):=by
 have hM:bR M≠[]:=by rw[ne_eq,gA];omega
 have hN:aa (bR (2*M-1))=true:=vB oO;have hr:=yS vs sd i (bR M) oO;rw[Ni hv (vB oO) hM hi]at hr;have ha:=SQ (a:=M) (b:=M) oO;have hs:=zV (a:=M) (b:=1) oO oO;have ho:=zV (a:=M+M) (b:=1) oO oO;have hd:=DN (sd:=sd) hv hN (by rw[aY];omega) hi hl hsd
 rw[<-dJ]at hs ho;rw[show M+M-1=2*M-1 by omega]at ho
 unfold y7;generalize hD:kK vs sd i (bR (2*M-1))=r at*
 cases r with
 |error e=>
  unfold u6 at hd;unfold sV;rcases qe hD with rfl|rfl
  ·refine eW call323 func323 ?_;exact z7 @hr @ha @hs @ho @hd oT oT
  ·refine eW call323 func323 ?_;exact z7 @hr @ha @hs @ho @hd oT oT
 |ok x=>
  obtain⟨vx,hx,-⟩:=nL hv hN hl hi hD;rw[aY]at hx;have hz:=RM (x:=(num x:Int)) (y:=((M-1:Nat):Int)) oO;have e1:Z (num x:Int)= .agg [.b false, .s x]:=by rw[<-PY,BR vx];rfl
  have e2:Z ((M-1:Nat):Int)= .agg [.b false,N (M-1)]:=rfl;rw[e1,e2]at hz;unfold u6 at hd;unfold sV;simp only;refine eW call323 func323 ?_;exact z7 @hr @ha @hs @ho @hd @hz oT
theorem Fk:cT Zp 2:=⟨fun _=>rfl,fun x y hy=>by simp[Zp,cU,je,PV.cells]at hy;rcases hy with rfl|rfl<;>rfl,fun h=>oO,fun _ x=>rfl⟩
def Mt (vs:List Bytes) (sd:Bytes) (j:Nat):Except Int (List Int)->PV
 | .ok ms=> .tup [.sl (ms.map Zp),T vs sd j,E 0]
 | .error e=> .tup [.sl [],T [] [] 0,E e]
theorem BY {c sl b:Bytes} (hr:si c sl) (vb:aa b=true) (hb:b≠[]) (lb:b.length<=16):1<=pI c sl b/\3*pI c sl b<dC:=by
 have h1:=hr.c2;have h2:=hr.s2;have h3:=Ga vb hb;unfold pI;refine⟨oQ (oQ oO oO) oO,?_⟩;have g1:num sl<256^8:=b9 (ct sl) (cM oC hr.ls);have g2:num c<256^8:=b9 (ct c) (cM oC hr.lc);have g3:num b<256^16:=b9 (ct b) (cM oC lb);have g4:num sl*num c*num b<=256^8*256^8*256^16:=j9 (j9 (j3 g1) (j3 g2)) (j3 g3);exact eu (kS 3 g4) (by unfold dC;decide+kernel)
theorem IK (ms:List Int) (z:Int):aX Zp (ms++[z])=aX Zp ms++[.v (.b (zs z)), .v (.s (zb z))]:=by rw[cu];rfl
structure V6 (s:cK):Prop where
 g: ∀p∈s.groups,p.1.length<=8/\p.2.length<=8
 v: ∀b∈s.vars,b.length<=16
 q: ∀q∈s.eqs,q.terms.length<=1000/\ ∀t∈q.terms,t.abs.length<=16
 ng:s.groups.length<=1000
 nv:s.vars.length<=1000
 ne:s.eqs.length<=1000
def gB (g:Bytes×Bytes):Bool:=aa g.1&&aa g.2
def Rc (nv:Nat) (t:eD):Bool:=(decide (0<=t.var)&&decide (t.var<nv))&&(aa t.base&&cr (t.neg,t.abs))
def LQ (ng nv:Nat) (q:dr):Bool:=(decide (0<=q.kR)&&decide (q.kR<ng)&&aa q.tgt)&&q.terms.all (Rc nv)
def pj (s:cK):Bool:=s.groups.all gB&&(s.vars.all aa&&s.eqs.all (LQ s.groups.length s.vars.length))
theorem Mo {s:cK} (hb:V6 s):aE 417 [s.pv] (E (if pj s then 0 else 3)):=by
 obtain⟨gs,vs,es⟩:=s;obtain⟨-,-,bq,ng,nv,ne⟩:=hb;simp only at bq ng nv ne;have l1:(gs.map dS).length=gs.length:=aL ..;have l2:(vs.map cO).length=vs.length:=aL ..;have l3:(es.map dr.pv).length=es.length:=aL ..;unfold cK.pv;simp only;refine eW call417 func417 ?_;refine dY @l1 ?_;refine ak (α:=Nat) (fun i=>gs.length-i) (fun i=>⟨[(1, .p 1000 0 0),(12, .v (.sl (gs.map dS))),(13,E' gs.length),(14,E' i)],[(1000,⟨0,[.v (.sl (gs.map dS)), .v (.sl (vs.map cO)), .v (.sl (es.map dr.pv))],false,none⟩)],_⟩) (fun i=>i<=gs.length/\(gs.drop i).all gB=gs.all gB) 0 (fun _=>aD _) ⟨aR _,rfl⟩ ?_ ?_
 ·exact lE
 ·rintro i ⟨hi,hf⟩ R hR
  by_cases hlt:i<gs.length
  ·have e1:=getD_map dS gs eU hlt;have hgo:=fun h=>hR (i+1) ⟨oO,h⟩ oO
   rw[bc eU hlt,List.all_cons]at hf;obtain⟨x,hx⟩: ∃x,x=gs.getD i eU:=⟨_,rfl⟩;rw[<-hx]at e1 hf;obtain⟨m,o⟩:=x;have v1:=aG m;have v2:=aG o;clear hR hx;simp only[dS]at e1
   cases hg:gB (m,o)with
   |true=>
    rw[hg,cj]at hf;obtain⟨vm,vo⟩:aa m=true/\aa o=true:=by simpa[gB]using hg
    rw[vm]at v1;rw[vo]at v2;refine tO (aN @l1 @e1) @v1 @v2 ?_;refine hgo hf _ ?_;exact lE
   |false=>
    rw[hg,db]at hf;have hz:pj ⟨gs,vs,es⟩=false:=by simp only[pj,<-hf,db]
    rw[hz];have hg:(aa m&&aa o)=false:=hg;clear hgo hf hz;generalize aa m=b1 at*;generalize aa o=b2 at*;exact Rn (aN @l1 @e1) @v1 @v2
  ·obtain rfl:i=gs.length:=oO;rw[dn]at hf;have hf1:gs.all gB=true:=hf.symm;clear hf hR;refine dY (aN @l1 @l2) ?_;refine ak (α:=Nat) (fun i=>vs.length-i) (fun i=>⟨[(1, .p 1000 0 0),(30, .v (.sl (vs.map cO))),(31,E' vs.length),(32,E' i)],[(1000,⟨0,[.v (.sl (gs.map dS)), .v (.sl (vs.map cO)), .v (.sl (es.map dr.pv))],false,none⟩)],_⟩) (fun i=>i<=vs.length/\(vs.drop i).all aa=vs.all aa) 0 (fun _=>aD _) ⟨aR _,rfl⟩ ?_ ?_
   ·exact lE
   ·rintro i ⟨hi,hf⟩ R hR
    by_cases hlt:i<vs.length
    ·have e1:=getD_map cO vs [] hlt;have hgo:=fun h=>hR (i+1) ⟨oO,h⟩ oO
     rw[bc [] hlt,List.all_cons]at hf;generalize vs.getD i []=x at*;have v1:=aG x;clear hR;simp only[cO]at e1
     cases hg:aa x with
     |true=>
      rw[hg]at v1;rw[hg,cj]at hf;refine jd (aN @l2 @e1) @v1 ?_;refine hgo hf _ ?_;exact lE
     |false=>
      rw[hg]at v1;rw[hg,db]at hf;have hz:pj ⟨gs,vs,es⟩=false:=by simp only[pj,<-hf,db,oY]
      rw[hz];clear hgo;exact lF (aN @l2 @e1) @v1
    ·obtain rfl:i=vs.length:=oO;rw[dn]at hf;have hf2:vs.all aa=true:=hf.symm;have hz:pj ⟨gs,vs,es⟩=es.all (LQ gs.length vs.length):=by simp only[pj,hf1,hf2,cj]
     rw[hz];clear hf hR hz;refine dY (aN @l2 @l3) ?_;refine ak (α:=Nat) (fun i=>es.length-i) (fun i=>⟨[(1, .p 1000 0 0),(42, .v (.sl (es.map dr.pv))),(43,E' es.length),(44,E' i)],[(1000,⟨0,[.v (.sl (gs.map dS)), .v (.sl (vs.map cO)), .v (.sl (es.map dr.pv))],false,none⟩)],_⟩) (fun i=>i<=es.length/\(es.drop i).all (LQ gs.length vs.length)=es.all (LQ gs.length vs.length)) 0 (fun _=>aD _) ⟨aR _,rfl⟩ ?_ ?_
     ·exact lE
     ·rintro i ⟨hi,hf⟩ R hR
      by_cases hlt:i<es.length
      ·have e1:=getD_map dr.pv es gN hlt;have q4:=(bq _ (aC gN hlt)).1;have hgo:=fun h=>hR (i+1) ⟨oO,h⟩ oO
       rw[bc gN hlt,List.all_cons]at hf;obtain⟨x,hx⟩: ∃x,x=es.getD i gN:=⟨_,rfl⟩;rw[<-hx]at e1 q4 hf;obtain⟨gr,tg,ts⟩:=x;simp only at q4;have v1:=aG tg;have l4:(ts.map eD.pv).length=ts.length:=aL ..;simp only[dr.pv]at e1;clear hR hx
       cases hg:(decide (0<=gr)&&decide (gr<gs.length)&&aa tg)with
       |false=>
        have hq:LQ gs.length vs.length ⟨gr,tg,ts⟩=false:=by simp only[LQ,hg,db]
        rw[hq,db]at hf;rw[<-hf];clear hgo hf hq;generalize aa tg=b1 at*;repeat' first|simp only[go_sem,seval,l1,l3,e1]|refine cP v1 ?_|refine oE ?_|apply xX<;>intro hc
        all_goals simp_all
        all_goals omega
       |true=>
        have hq:LQ gs.length vs.length ⟨gr,tg,ts⟩=ts.all (Rc vs.length):=by simp only[LQ,hg,cj]
        rw[hq]at hf;simp only[ba,bM]at hg;obtain⟨⟨g1,g2⟩,vt⟩:=hg;rw[vt]at v1;have hd1:decide (gr<0)=false:=bL oO;have hd2:decide (gr>=(gs.length:Int))=false:=bL oO;clear hq g1 g2 vt;refine rU (aN @l1 (aN @l3 (aN @l4 (aN @e1 (aN @hd1 @hd2))))) @v1 ?_;refine ak (α:=Nat) (fun i=>ts.length-i) (fun j=>⟨[(1, .p 1000 0 0),(42, .v (.sl (es.map dr.pv))),(43,E' es.length),(44,E' i),(66, .v (.sl (ts.map eD.pv))),(67,E' ts.length),(68,E' j)],[(1000,⟨0,[.v (.sl (gs.map dS)), .v (.sl (vs.map cO)), .v (.sl (es.map dr.pv))],false,none⟩)],_⟩) (fun i=>i<=ts.length/\(ts.drop i).all (Rc vs.length)=ts.all (Rc vs.length)) 0 (fun _=>aD _) ⟨aR _,rfl⟩ ?_ ?_
        ·exact lE
        ·rintro j ⟨hj,hk⟩ R' hR'
         by_cases hjt:j<ts.length
         ·have e2:=getD_map eD.pv ts fj hjt;have hgo':=fun h=>hR' (j+1) ⟨oO,h⟩ oO
          rw[bc fj hjt,List.all_cons]at hk;obtain⟨y,hy⟩: ∃y,y=ts.getD j fj:=⟨_,rfl⟩;rw[<-hy]at e2 hk;obtain⟨b,v,n,a⟩:=y;have v2:=aG b;have v3:=gO n a;rw[show(aa a&& !(n&&a==[]))=cr (n,a)from rfl]at v3
          simp only[eD.pv]at e2;clear hR' hy
          cases ht:Rc vs.length ⟨b,v,n,a⟩with
          |true=>
           rw[ht,cj]at hk;simp only[Rc,ba,bM]at ht;obtain⟨⟨t1,t2⟩,t3,t4⟩:=ht;rw[t3]at v2;rw[t4]at v3;have hd3:decide (v<0)=false:=bL oO;have hd4:decide (v>=(vs.length:Int))=false:=bL oO;refine tO (aN @l2 (aN @l4 (aN @e2 (aN @hd3 @hd4)))) @v2 @v3 ?_;refine hgo' hk _ ?_;exact lE
          |false=>
           rw[ht,db]at hk;rw[<-hk,db]at hf;rw[<-hf];simp only[Rc]at ht;clear hgo' hgo hk hf;generalize aa b=b1 at*;generalize cr (n,a)=b2 at*;repeat' first|simp only[go_sem,seval,l2,l4,e2]|refine cP v2 ?_|refine cP v3 ?_|refine oE ?_|apply xX<;>intro hc
           all_goals simp_all
           all_goals omega
         ·obtain rfl:j=ts.length:=oO;rw[dn]at hk;rw[<-hk]at hf;refine eC (aN @l3 @l4) ?_;refine hgo hf _ ?_;exact lE
      ·obtain rfl:i=es.length:=oO;rw[dn]at hf;rw[<-hf];exact gU @l3
def JI (s:cK):Bool:=decide (8<s.groups.length)||(decide (64<s.vars.length)||(decide (64<s.eqs.length)||s.eqs.any fun q=>decide (64<q.terms.length)))
theorem P8 {s:cK} (hb:V6 s):aE 418 [s.pv] (E (if JI s then 6 else 0)):=by
 have h1:=tR s.eqs _ _ (by have:=hb.ne;omega) P9
 obtain⟨gs,vs,es⟩:=s;have ng:=hb.ng;have nv:=hb.nv;have ne:=hb.ne;simp only at ng nv ne h1;have l1:(gs.map dS).length=gs.length:=aL ..;have l2:(vs.map cO).length=vs.length:=aL ..;have l3:(es.map dr.pv).length=es.length:=aL ..;clear hb;unfold cK.pv JI;simp only;generalize (es.any fun q=>decide (64<q.terms.length))=b at*
 have d1:decide ((gs.length:Int)>8)=decide (8<gs.length):=by rw[fz];omega
 have d2:decide ((vs.length:Int)>64)=decide (64<vs.length):=by rw[fz];omega
 have d3:decide ((es.length:Int)>64)=decide (64<es.length):=by rw[fz];omega
 refine eW call418 func418 ?_;repeat' first|simp only[go_sem,seval,l1,l2,l3,d1,d2,d3]|refine cP h1 ?_|refine oE ?_|apply xX<;>intro hc
 all_goals simp_all
 all_goals omega
def kR (s:cK) (q:dr):Bytes×Bytes:=s.groups.getD q.kR.toNat eU
def Jl (gs:List (Bytes×Bytes)) (q:dr):Bool:=vE (gs.getD q.kR.toNat eU).1 (gs.getD q.kR.toNat eU).2 q.tgt&&q.terms.all fun t=>vE (gs.getD q.kR.toNat eU).1 (gs.getD q.kR.toNat eU).2 t.base
def gC (g:Bytes×Bytes):Bool:=decide (gE g.1 g.2=0)
def BE (s:cK):Bool:=s.groups.all gC&&s.eqs.all (Jl s.groups)
theorem LR {ng nv:Nat} {q:dr} (h:LQ ng nv q=true):0<=q.kR/\q.kR<ng/\ ∀t∈q.terms,0<=t.var/\t.var<nv/\aa t.base=true/\cr (t.neg,t.abs)=true:=by
 simp only[LQ,ba,bM]at h;refine⟨h.1.1.1,h.1.1.2,fun t ht=> ?_⟩
 have:=bH.1 h.2 t ht;simp only[Rc,ba,bM]at this;exact⟨this.1.1,this.1.2,this.2.1,this.2.2⟩
theorem F1 {s:cK} (hb:V6 s) (hf:pj s=true):aE 419 [s.pv] (E (if BE s then 0 else 13)):=by
 obtain⟨gs,vs,es⟩:=s;obtain⟨bg,-,bq,ng,nv,ne⟩:=hb;simp only[pj,ba]at bg bq ng nv ne hf;have hq:=bH.1 hf.2.2;have l1:(gs.map dS).length=gs.length:=aL ..;have l3:(es.map dr.pv).length=es.length:=aL ..;clear hf;unfold cK.pv;simp only;refine eW call419 func419 ?_;refine dY @l1 ?_;refine ak (α:=Nat) (fun i=>gs.length-i) (fun i=>⟨[(1, .p 1000 0 0),(9, .v (.sl (gs.map dS))),(10,E' gs.length),(11,E' i)],[(1000,⟨0,[.v (.sl (gs.map dS)), .v (.sl (vs.map cO)), .v (.sl (es.map dr.pv))],false,none⟩)],_⟩) (fun i=>i<=gs.length/\(gs.drop i).all gC=gs.all gC) 0 (fun _=>aD _) ⟨aR _,rfl⟩ ?_ ?_
 ·exact lE
 ·rintro i ⟨hi,hf⟩ R hR
  by_cases hlt:i<gs.length
  ·have e1:=getD_map dS gs eU hlt;have k:=bg _ (aC eU hlt);have hgo:=fun h=>hR (i+1) ⟨oO,h⟩ oO
   rw[bc eU hlt,List.all_cons]at hf;obtain⟨x,hx⟩: ∃x,x=gs.getD i eU:=⟨_,rfl⟩;rw[<-hx]at e1 k hf;obtain⟨m,o⟩:=x;have v1:=nM k.1 k.2;clear hR hx k;simp only[dS]at e1;simp only[gC]at hf
   by_cases hg:gE m o=0
   ·rw[hg]at v1;rw[aV hg,cj]at hf;refine jd (aN @l1 @e1) @v1 ?_;refine hgo hf _ ?_;exact lE
   ·rw[bL hg,db]at hf;have hz:BE ⟨gs,vs,es⟩=false:=by
     simp only[BE,C5];exact .inl hf.symm
    have hb:(gE m o !=0)=true:=by simpa using hg
    rw[hz];clear hgo hf hz;generalize gE m o=z at*;exact lF (aN @l1 (aN @e1 @hb)) @v1
  ·obtain rfl:i=gs.length:=oO;rw[dn]at hf;have hf1:gs.all gC=true:=hf.symm;have hz:BE ⟨gs,vs,es⟩=es.all (Jl gs):=by simp only[BE,hf1,cj]
   rw[hz];clear hf hR hz hf1;refine dY (aN @l1 @l3) ?_;refine ak (α:=Nat) (fun i=>es.length-i) (fun i=>⟨[(1, .p 1000 0 0),(20, .v (.sl (es.map dr.pv))),(21,E' es.length),(22,E' i)],[(1000,⟨0,[.v (.sl (gs.map dS)), .v (.sl (vs.map cO)), .v (.sl (es.map dr.pv))],false,none⟩)],_⟩) (fun i=>i<=es.length/\(es.drop i).all (Jl gs)=es.all (Jl gs)) 0 (fun _=>aD _) ⟨aR _,rfl⟩ ?_ ?_
   ·exact lE
   ·rintro i ⟨hi,hf⟩ R hR
    by_cases hlt:i<es.length
    ·have e1:=getD_map dr.pv es gN hlt;obtain⟨q1,q2,-⟩:=LR (hq _ (aC gN hlt));have q4:=(bq _ (aC gN hlt)).1;have hgo:=fun h=>hR (i+1) ⟨oO,h⟩ oO
     rw[bc gN hlt,List.all_cons]at hf;obtain⟨x,hx⟩: ∃x,x=es.getD i gN:=⟨_,rfl⟩;rw[<-hx]at e1 q1 q2 q4 hf;obtain⟨gr,tg,ts⟩:=x;simp only at q1 q2 q4;have hgl:gr.toNat<gs.length:=oO;have kg:=bg _ (aC eU hgl);have e3:=getD_map dS gs eU hgl;simp only[Jl]at hf;obtain⟨z,hz⟩: ∃z,z=gs.getD gr.toNat eU:=⟨_,rfl⟩;rw[<-hz]at kg e3 hf;obtain⟨m,o⟩:=z;simp only at kg hf;have v1:=L5 kg.1 kg.2 tg;have v2:=tS ts _ _ _ oO (P1 kg.1 kg.2);have hn:(ts.any fun t=> !vE m o t.base)= !ts.all fun t=>vE m o t.base:=jh ..
     rw[hn]at v2;simp only[dS]at e3 v2;simp only[dr.pv]at e1;clear hR hx hz kg hn hq bq bg;generalize vE m o tg=b1 at*;generalize (ts.all fun t=>vE m o t.base)=b2 at*
     cases hbb:(b1&&b2)with
     |true=>
      rw[hbb,cj]at hf;simp only[ba]at hbb;obtain⟨rfl,rfl⟩:=hbb;repeat' first|simp only[go_sem,seval,l1,l3,e1,e3,bC]|refine cP v1 ?_|refine cV v2 ?_|refine oE ?_|apply xX<;>intro hc
      refine hgo hf _ ?_;exact lE
     |false=>
      rw[hbb,db]at hf;rw[<-hf];clear hgo hf;repeat' first|simp only[go_sem,seval,l1,l3,e1,e3,bC]|refine cP v1 ?_|refine cV v2 ?_|refine oE ?_|apply xX<;>intro hc
      all_goals simp_all
    ·obtain rfl:i=es.length:=oO;rw[dn]at hf;rw[<-hf];exact gU @l3
theorem xh (l:List eD) (f:FuncId) (c:List PV) (p:eD->Bool) (hl:l.length<4611686018427387904) (h: ∀x∈l,aE f (eD.pv x::c) (.b (p x))):aE 516 [.sl (l.map eD.pv), .fc f [] c] (E (ec p 0 l)):=by
 have hlm:(l.map eD.pv).length=l.length:=aL ..;refine eW call516 func516 ?_;refine dY @hlm ?_;refine ak (α:=Nat) (fun i=>l.length-i) (fun i=>⟨[(0, .v (.sl (l.map eD.pv))),(1, .v (.fc f [] c)),(7, .v (.i .i64 l.length)),(8, .v (.i .i64 (i:Nat)))],[],_⟩) (fun i=>i<=l.length/\ec p i (l.drop i)=ec p 0 l) 0 (fun _=>aD _) ⟨aR _,rfl⟩ ?_ ?_
 ·exact lE
 ·rintro i ⟨hi,hx⟩ R hR;rw[<-hx]
  by_cases hlt:i<l.length
  ·have e1:=getD_map eD.pv l fj hlt;have hf:=h (l.getD i fj) (aC fj hlt);have hgo:=hR (i+1);rw[<-hx,bc fj hlt]at hgo;rw[bc fj hlt];simp only[ec]at hgo⊢;clear hx hR h;obtain⟨b,hb⟩: ∃b,b=p (l.getD i fj):=⟨_,rfl⟩;rw[<-hb]at hf hgo⊢;clear hb;obtain⟨x,hxx⟩: ∃x,x=l.getD i fj:=⟨_,rfl⟩;rw[<-hxx]at e1 hf;clear hxx;obtain⟨tb,tv,tn,ta⟩:=x;simp only[eD.pv]at e1 hf;cases b
   ·have hgo:=hgo ⟨oO,rfl⟩ oO;repeat' first|simp only[go_sem,seval,hlm,e1]|(refine gp hf (lf _ _) ?_)|refine oE ?_|apply xX<;>intro hc
    refine hgo _ ?_;exact lE
   ·repeat' first|simp only[go_sem,seval,hlm,e1]|(refine gp hf (lf _ _) ?_)|refine oE ?_|apply xX<;>intro hc
    all_goals rfl
  ·obtain rfl:i=l.length:=oO;rw[dn];repeat' first|simp only[go_sem,seval,hlm]|refine oE ?_|apply xX<;>intro hc
   all_goals simp[ec]
theorem r8 (l:List eD) (f:FuncId) (c:List PV) (p:eD->Bool) (hl:l.length<4611686018427387904) (h: ∀x∈l,aE f (eD.pv x::c) (.b (p x))):aE 482 [.sl (l.map eD.pv), .fc f [] c] (.b (l.any p)):=by
 have hi:=xh l f c p hl h;have e:decide (ec p 0 l>=0)=l.any p:=by
  rw[dk,decide_eq_true_iff];exact iH
 refine eW call482 func482 ?_;exact lF @e @hi
theorem xg (l:List (Bytes×Bytes)) (f:FuncId) (c:List PV) (p:(Bytes×Bytes)->Bool) (hl:l.length<4611686018427387904) (h: ∀x∈l,aE f (dS x::c) (.b (p x))):aE 192 [.sl (l.map dS), .fc f [] c] (E (ec p 0 l)):=by
 have hlm:(l.map dS).length=l.length:=aL ..;refine eW call192 func192 ?_;refine dY @hlm ?_;refine ak (α:=Nat) (fun i=>l.length-i) (fun i=>⟨[(0, .v (.sl (l.map dS))),(1, .v (.fc f [] c)),(7, .v (.i .i64 l.length)),(8, .v (.i .i64 (i:Nat)))],[],_⟩) (fun i=>i<=l.length/\ec p i (l.drop i)=ec p 0 l) 0 (fun _=>aD _) ⟨aR _,rfl⟩ ?_ ?_
 ·exact lE
 ·rintro i ⟨hi,hx⟩ R hR;rw[<-hx]
  by_cases hlt:i<l.length
  ·have e1:=getD_map dS l eU hlt;have hf:=h (l.getD i eU) (aC eU hlt);have hgo:=hR (i+1);rw[<-hx,bc eU hlt]at hgo;rw[bc eU hlt];simp only[ec]at hgo⊢;clear hx hR h;obtain⟨b,hb⟩: ∃b,b=p (l.getD i eU):=⟨_,rfl⟩;rw[<-hb]at hf hgo⊢;clear hb;obtain⟨x,hxx⟩: ∃x,x=l.getD i eU:=⟨_,rfl⟩;rw[<-hxx]at e1 hf;clear hxx;obtain⟨gm,go⟩:=x;simp only[dS]at e1 hf;cases b
   ·have hgo:=hgo ⟨oO,rfl⟩ oO;repeat' first|simp only[go_sem,seval,hlm,e1]|(refine gp hf (lf _ _) ?_)|refine oE ?_|apply xX<;>intro hc
    refine hgo _ ?_;exact lE
   ·repeat' first|simp only[go_sem,seval,hlm,e1]|(refine gp hf (lf _ _) ?_)|refine oE ?_|apply xX<;>intro hc
    all_goals rfl
  ·obtain rfl:i=l.length:=oO;rw[dn];repeat' first|simp only[go_sem,seval,hlm]|refine oE ?_|apply xX<;>intro hc
   all_goals simp[ec]
theorem rZ (l:List (Bytes×Bytes)) (f:FuncId) (c:List PV) (p:(Bytes×Bytes)->Bool) (hl:l.length<4611686018427387904) (h: ∀x∈l,aE f (dS x::c) (.b (p x))):aE 423 [.sl (l.map dS), .fc f [] c] (.b (l.any p)):=by
 have hi:=xg l f c p hl h;have e:decide (ec p 0 l>=0)=l.any p:=by
  rw[dk,decide_eq_true_iff];exact iH
 refine eW call423 func423 ?_;exact lF @e @hi
theorem AD (s:cK) (hl:s.groups.length<1000000):aE 426 [s.pv] (.s (bK s.groups)):=by
 obtain⟨gs,vs,es⟩:=s;simp only at hl;have l1:(gs.map dS).length=gs.length:=aL ..;unfold cK.pv;simp only;refine eW call426 func426 ?_;refine dY @l1 ?_;refine ak (α:=Nat) (fun i=>gs.length-i) (fun i=>⟨[(1, .p 1000 0 0),(6, .v (.sl (gs.map dS))),(7,E' gs.length),(8,E' i)],[(1000,⟨0,[.v (.sl (gs.map dS)), .v (.sl (vs.map cO)), .v (.sl (es.map dr.pv))],false,none⟩)],_⟩) (fun i=>i<=gs.length/\bK (gs.drop i)=bK gs) 0 (fun _=>aD _) ⟨aR _,rfl⟩ ?_ ?_
 ·exact lE
 ·rintro i ⟨hi,hf⟩ R hR;rw[<-hf]
  by_cases hlt:i<gs.length
  ·have e1:=getD_map dS gs eU hlt;have hgo:=hR (i+1);rw[<-hf]at hgo;rw[bc eU hlt]at hgo⊢;obtain⟨x,hx⟩: ∃x,x=gs.getD i eU:=⟨_,rfl⟩;rw[<-hx]at e1 hgo⊢;clear hx hf hR;obtain⟨m,o⟩:=x;simp only[bK]at hgo⊢;simp only[dS]at e1
   by_cases ho:o=[]
   ·subst ho;simp only[az]at hgo⊢;have hgo:=hgo ⟨oO,trivial⟩ oO;exact ko (aN @l1 (aN @e1 @nn)) @hgo
   ·have hb:(o==([]:Bytes))=false:=by simpa using ho
    rw[af ho];exact gU (aN @l1 (aN @e1 @hb))
  ·obtain rfl:i=gs.length:=oO;rw[dn];exact gU @l1
def Ek (q:Bytes) (g:Bytes×Bytes):Bool:= !(g.2==[])&& !(g.2==q)
def vF (vs:List Bytes) (t:eD):Bool:=vs.getD t.var.toNat []==[]
def IX (gs:List (Bytes×Bytes)) (vs:List Bytes) (q:dr):Bool:=(gs.getD q.kR.toNat eU).2==[]&&q.terms.any (vF vs)
def BV (s:cK):Bool:= !(s.vars.any fun b=>b==[])||(!(bK s.groups==[])&& !(s.groups.any (Ek (bK s.groups)))&&s.eqs.all fun q=> !IX s.groups s.vars q)
theorem Uq (q:Bytes) (g:Bytes×Bytes):aE 485 [dS g, .pt (.agg [.s q]) 0] (.b (Ek q g)):=by
 obtain⟨m,o⟩:=g;simp only[dS,Ek];refine eW call485 func485 ?_;repeat' first|simp only[go_sem,seval,bne]|refine oE ?_|apply xX<;>intro hc
 all_goals simp_all[bne]
theorem Ur {s:cK} {t:eD} (h0:0<=t.var) (h1:t.var<s.vars.length):aE 486 [t.pv, .pt s.pv 0] (.b (vF s.vars t)):=by
 obtain⟨gs,vs,es⟩:=s;obtain⟨b,v,n,a⟩:=t;simp only at h0 h1;have l2:(vs.map cO).length=vs.length:=aL ..;have e1:=getD_map cO vs [] (i:=v.toNat) oO;simp only[cK.pv,eD.pv,vF,cO]at*;refine eW call486 func486 ?_;exact gU (aN @l2 @e1)
theorem P4 {s:cK} (hb:V6 s) (hf:pj s=true):aE 420 [s.pv] (E (if BV s then 0 else 10)):=by
 have h1:=tT s.vars _ _ (by have:=hb.nv;omega) Up
 have hor:=AD s (by have:=hb.ng;omega)
 have h2:=rZ s.groups _ _ _ (by have:=hb.ng;omega) fun x _=>Uq (bK s.groups) x
 have h3:=fun q (hq:q∈s.eqs)=>r8 q.terms 486 [.pt s.pv 0] (vF s.vars) (by have:=(hb.q q hq).1;omega) fun t ht=>by
  simp only[pj,ba]at hf;obtain⟨-,-,k⟩:=LR (bH.1 hf.2.2 q hq);exact Ur (k t ht).1 (k t ht).2.1
 have ng:=hb.ng;have ne:=hb.ne;have bq:=hb.q;obtain⟨gs,vs,es⟩:=s;simp only[pj,ba]at hf ng ne bq;have hq:=bH.1 hf.2.2;have l1:(gs.map dS).length=gs.length:=aL ..;have l3:(es.map dr.pv).length=es.length:=aL ..;unfold BV;simp only at*;clear hb hf;generalize (vs.any fun b=>b==[])=bv at*
 generalize bK gs=q at*;generalize (gs.any (Ek q))=bo at*;unfold cK.pv at*;simp only at*;cases bv
 ·refine eW call420 func420 ?_;exact z1 @h1
 by_cases hq0:q=[]
 ·subst hq0;refine eW call420 func420 ?_;repeat' first|simp only[go_sem,seval,bC,nn]|refine cP h1 ?_|refine cP hor ?_|refine cV h2 ?_|refine oE ?_|apply xX<;>intro hc
  all_goals rfl
 have hb:(q==([]:Bytes))=false:=by simpa using hq0
 rw[hb];simp only[cl,cG,cj,jx];cases bo
 ·refine eW call420 func420 ?_;repeat' first|simp only[go_sem,seval,bC,hb]|refine cP h1 ?_|refine cP hor ?_|refine cV h2 ?_|refine oE ?_|apply xX<;>intro hc
  refine ak (α:=Nat) (fun i=>es.length-i) (fun i=>⟨[(1, .p 1000 0 0),(21, .v (.sl (es.map dr.pv))),(22,E' es.length),(23,E' i)],[(1000,⟨0,[.v (.sl (gs.map dS)), .v (.sl (vs.map cO)), .v (.sl (es.map dr.pv))],false,none⟩)],_⟩) (fun i=>i<=es.length/\((es.drop i).all fun q=> !IX gs vs q)=es.all fun q=> !IX gs vs q) 0 (fun _=>aD _) ⟨aR _,rfl⟩ ?_ ?_
  ·exact lE
  ·rintro i ⟨hi,hf⟩ R hR
   by_cases hlt:i<es.length
   ·have e1:=getD_map dr.pv es gN hlt;have v2:=h3 _ (aC gN hlt);obtain⟨q1,q2,-⟩:=LR (hq _ (aC gN hlt));have hgo:=fun h=>hR (i+1) ⟨oO,h⟩ oO
    rw[bc gN hlt,List.all_cons]at hf;obtain⟨x,hx⟩: ∃x,x=es.getD i gN:=⟨_,rfl⟩;rw[<-hx]at e1 q1 q2 v2 hf;obtain⟨gr,tg,ts⟩:=x;simp only at q1 q2 v2;have hgl:gr.toNat<gs.length:=oO;have e3:=getD_map dS gs eU hgl;have hbq:IX gs vs ⟨gr,tg,ts⟩=((gs.getD gr.toNat eU).2==[]&&ts.any (vF vs)):=rfl;rw[hbq]at hf;obtain⟨z,hz⟩: ∃z,z=gs.getD gr.toNat eU:=⟨_,rfl⟩;rw[<-hz]at e3 hf;obtain⟨m,o⟩:=z;simp only at hf;simp only[dS]at e3;simp only[dr.pv]at e1;clear hR hx hz h3 hq bq h1 h2 hor;generalize ts.any (vF vs)=bt at*
    by_cases ho:o=[]
    ·subst ho;cases bt
     ·simp only[nn,oY,cG,cj]at hf;repeat' first|simp only[go_sem,seval,l1,l3,e1,e3,bC,nn,o6]|refine cV v2 ?_|refine oE ?_|apply xX<;>intro hc
      refine hgo hf _ ?_;exact lE
     ·simp only[nn,gj,cl,db]at hf;rw[<-hf];repeat' first|simp only[go_sem,seval,l1,l3,e1,e3,bC,nn,o6]|refine cV v2 ?_|refine oE ?_|apply xX<;>intro hc
      all_goals rfl
    ·have hob:(o==([]:Bytes))=false:=by simpa using ho
     have hob2:(o !=([]:Bytes))=true:=by simpa using ho
     simp only[hob,db,cG,cj]at hf;repeat' first|simp only[go_sem,seval,l1,l3,e1,e3,bC,hob,hob2]|refine cV v2 ?_|refine oE ?_|apply xX<;>intro hc
     refine hgo hf _ ?_;exact lE
   ·obtain rfl:i=es.length:=oO;rw[dn]at hf;rw[<-hf];exact gU @l3
 ·refine eW call420 func420 ?_;repeat' first|simp only[go_sem,seval,bC,hb]|refine cP h1 ?_|refine cP hor ?_|refine cV h2 ?_|refine oE ?_|apply xX<;>intro hc
  all_goals rfl
def Mm (s:cK):Int:=if !pj s then 3 else if JI s then 6 else if !BE s then 13 else if !BV s then 10 else 0
theorem HN {s:cK} (hb:V6 s):aE 311 [s.pv] (E (Mm s)):=by
 have h1:=Mo hb;have h2:=P8 hb;have h3:=F1 hb;have h4:=P4 hb;clear hb;unfold Mm;unfold cK.pv at*;generalize pj s=b1 at*;generalize JI s=b2 at*;generalize BE s=b3 at*;generalize BV s=b4 at*;cases b1
 ·refine eW call311 func311 ?_;exact Sl @h1 @h2
 have h3:=h3 rfl;have h4:=h4 rfl;cases b2
 ·cases b3
  ·refine eW call311 func311 ?_;exact Z1 @h1 @h2 @h3
  ·cases b4<;>
   ·refine eW call311 func311 ?_;exact Z3 @h1 @h2 @h3 @h4
 ·refine eW call311 func311 ?_;exact Sl @h1 @h2
structure Bo (s:cK):Prop where
 b:V6 s
 g: ∀p∈s.groups,gE p.1 p.2=0/\p.1.length<=8/\p.2.length<=8
 v: ∀b∈s.vars,aa b=true/\b.length<=16
 q: ∀q∈s.eqs,0<=q.kR/\q.kR<s.groups.length/\jF (s.groups.getD q.kR.toNat eU).1 (s.groups.getD q.kR.toNat eU).2 q.tgt=true/\q.terms.length<=64/\
  ∀t∈q.terms,0<=t.var/\t.var<s.vars.length/\jF (s.groups.getD q.kR.toNat eU).1 (s.groups.getD q.kR.toNat eU).2 t.base=true/\cr (t.neg,t.abs)=true
 ng:s.groups.length<=8
 nv:s.vars.length<=64
 ne:s.eqs.length<=64
 k:BV s=true
theorem Bo.m {s:cK} (h:Bo s):Rx s:=⟨h.g,h.q,h.ng,h.nv,h.ne⟩
theorem Bo.ck {s:cK} (h:Bo s):Mm s=0:=by
 have e1:pj s=true:=by
  simp only[pj,ba,bH];refine⟨fun p hp=> ?_,fun b hb=>(h.v b hb).1,fun q hq=> ?_⟩
  ·obtain⟨vm,vo,-⟩:=mc (h.g p hp).1;simp[gB,vm,vo]
  ·obtain⟨q1,q2,q3,q4,q5⟩:=h.q q hq;have hg:=(h.g _ (aC eU (show q.kR.toNat<s.groups.length by omega))).1
   simp only[LQ,ba,bM,bH];refine⟨⟨⟨q1,q2⟩,gG hg q3⟩,fun t ht=> ?_⟩
   obtain⟨t1,t2,t3,t4⟩:=q5 t ht;simp only[Rc,ba,bM];exact⟨⟨t1,t2⟩,gG hg t3,t4⟩
 have e2:JI s=false:=by
  simp only[JI,C4,lD,oP,bM];exact⟨by have:=h.ng;omega,by have:=h.nv;omega,by have:=h.ne;omega,fun q hq=>by have:=(h.q q hq).2.2.2.1;omega⟩
 have e3:BE s=true:=by
  simp only[BE,ba,bH];refine⟨fun p hp=>by simp[gC,(h.g p hp).1],fun q hq=> ?_⟩
  obtain⟨q1,q2,q3,q4,q5⟩:=h.q q hq;have hg:=(h.g _ (aC eU (show q.kR.toNat<s.groups.length by omega))).1
  simp only[Jl,vE,hg,decide_true,cj,ba,bH];exact⟨q3,fun t ht=>(q5 t ht).2.2.1⟩
 unfold Mm;rw[e1,e2,e3,h.k];rfl
end Go.Proofs.Tryz
namespace Go.Proofs.Tryz
open Go Go.Dom
end Go.Proofs.Tryz
namespace Go.Proofs.Tryz
open Go Go.Dom Go.Num
theorem EK (s:cK) (hl:s.groups.length<1000000):aE 121 [s.pv] (.s (bK s.groups)):=by
 obtain⟨gs,vs,es⟩:=s;simp only at hl;have l1:(gs.map dS).length=gs.length:=aL ..;unfold cK.pv;simp only;refine eW call121 func121 ?_;refine qY ?_;refine ak (α:=Nat) (fun i=>gs.length-i) (fun i=>⟨[(1, .p 1000 0 0),(3,E' i)],[(1000,⟨0,[.v (.sl (gs.map dS)), .v (.sl (vs.map cO)), .v (.sl (es.map dr.pv))],false,none⟩)],_⟩) (fun i=>i<=gs.length/\bK (gs.drop i)=bK gs) 0 (fun _=>aD _) ⟨aR _,rfl⟩ ?_ ?_
 ·exact lE
 ·rintro i ⟨hi,hf⟩ R hR;rw[<-hf]
  by_cases hlt:i<gs.length
  ·have e1:=getD_map dS gs eU hlt;have hgo:=hR (i+1);rw[<-hf]at hgo;rw[bc eU hlt]at hgo⊢;obtain⟨x,hx⟩: ∃x,x=gs.getD i eU:=⟨_,rfl⟩;rw[<-hx]at e1 hgo⊢;clear hx hf hR;obtain⟨m,o⟩:=x;simp only[bK]at hgo⊢;simp only[dS]at e1
   by_cases ho:o=[]
   ·subst ho;simp only[az]at hgo⊢;have hgo:=hgo ⟨oO,trivial⟩ oO;exact ko (aN @l1 (aN @e1 @nn)) @hgo
   ·have hb:(o==([]:Bytes))=false:=by simpa using ho
    rw[af ho];exact gU (aN @l1 (aN @e1 @hb))
  ·obtain rfl:i=gs.length:=oO;rw[dn];exact gU @l1
theorem NU {α:Type} {p:α->Bool} {l:List α} {i:Nat} (d:α) (h:i<l.length):(l.take (i+1)).any p=((l.take i).any p||p (l.getD i d)):=by
 rw[aQ d h,List.any_append];simp
theorem QY {s:cK} (hs:Bo s):aE 453 [s.pv] (.b true):=by
 have hk:=hs.k;have hor:=EK s (by have:=hs.ng;omega)
 obtain⟨gs,vs,es⟩:=s;obtain⟨-,hg,hv,hq,ng,nv,ne,-⟩:=hs;simp only at hg hv hq ng nv ne;have l1:(gs.map dS).length=gs.length:=aL ..;have l2:(vs.map cO).length=vs.length:=aL ..;have l3:(es.map dr.pv).length=es.length:=aL ..;unfold BV at hk;simp only at hk hor;unfold cK.pv at*;simp only at*;refine eW call453 func453 ?_;refine qY ?_;refine ak (α:=Nat) (fun i=>vs.length-i) (fun i=>⟨[(1, .p 1000 0 0),(3, .v (.b ((vs.take i).any fun b=>b==[]))),(4,E' i)],[(1000,⟨0,[.v (.sl (gs.map dS)), .v (.sl (vs.map cO)), .v (.sl (es.map dr.pv))],false,none⟩)],_⟩) (fun i=>i<=vs.length) 0 (fun _=>aD _) (aR _) ?_ ?_
 ·exact lE
 ·intro i hi R hR
  by_cases hlt:i<vs.length
  ·have e1:=getD_map cO vs [] hlt;have hgo:=hR (i+1) oO oO;rw[NU [] hlt]at hgo;generalize (vs.take i).any (fun b=>b==[])=b1 at*
   generalize vs.getD i []=x at*;clear hR hk;simp only[cO]at e1;cases b1
   ·rw[jx]at hgo;exact ko (aN @l2 @e1) @hgo
   ·rw[nk]at hgo;exact ko (aN @l2 @e1) @hgo
  ·obtain rfl:i=vs.length:=oO;rw[cg]
   cases hb:vs.any (fun b=>b==[])with
   |false=>
    exact gU @l2
   |true=>
    rw[hb]at hk;simp only[cl,jx,ba,dW]at hk;obtain⟨⟨hk1,hk2⟩,hk3⟩:=hk;generalize bK gs=q at*;clear hR hb;refine rU (aN @l2 @hk1) @hor ?_;refine ak (α:=Nat) (fun i=>gs.length-i) (fun i=>⟨[(1, .p 1000 0 0),(5, .v (.s q)),(6,E' i)],[(1000,⟨0,[.v (.sl (gs.map dS)), .v (.sl (vs.map cO)), .v (.sl (es.map dr.pv))],false,none⟩)],_⟩) (fun i=>i<=gs.length) 0 (fun _=>aD _) (aR _) ?_ ?_
    ·exact lE
    ·intro i hi R hR
     by_cases hlt:i<gs.length
     ·have e1:=getD_map dS gs eU hlt;have hgo:=hR (i+1) oO oO;have ho:Ek q (gs.getD i eU)=false:=by
       have:=oP.1 hk2 _ (aC eU hlt);simpa using this
      obtain⟨x,hx⟩: ∃x,x=gs.getD i eU:=⟨_,rfl⟩;rw[<-hx]at e1 ho;clear hR hx hk2 hk3;obtain⟨m,o⟩:=x;simp only[dS,Ek]at e1 ho
      by_cases h0:(o==([]:Bytes))=true
      ·exact ko (aN @l1 (aN @e1 @h0)) @hgo
      ·have h0:(o==([]:Bytes))=false:=by simpa using h0
       have h1:(o==q)=true:=by rw[h0]at ho;simpa using ho
       exact ko (aN @l1 (aN @e1 (aN @h0 @h1))) @hgo
     ·obtain rfl:i=gs.length:=oO;clear hR;refine dY @l1 ?_;refine ak (α:=Nat) (fun i=>es.length-i) (fun i=>⟨[(1, .p 1000 0 0),(7,E' i)],[(1000,⟨0,[.v (.sl (gs.map dS)), .v (.sl (vs.map cO)), .v (.sl (es.map dr.pv))],false,none⟩)],_⟩) (fun i=>i<=es.length) 0 (fun _=>aD _) (aR _) ?_ ?_
      ·exact lE
      ·intro i hi R hR
       by_cases hlt:i<es.length
       ·have e1:=getD_map dr.pv es gN hlt;obtain⟨q1,q2,-,q4,q5⟩:=hq _ (aC gN hlt);have hbq:=bH.1 hk3 _ (aC gN hlt);have hgo:=hR (i+1) oO oO;obtain⟨x,hx⟩: ∃x,x=es.getD i gN:=⟨_,rfl⟩;rw[<-hx]at e1 q1 q2 q4 q5 hbq;obtain⟨gr,tg,ts⟩:=x;simp only at q1 q2 q4 q5;have hgl:gr.toNat<gs.length:=oO;have e3:=getD_map dS gs eU hgl;have hbb:IX gs vs ⟨gr,tg,ts⟩=((gs.getD gr.toNat eU).2==[]&&ts.any (vF vs)):=rfl;rw[hbb]at hbq;obtain⟨z,hz⟩: ∃z,z=gs.getD gr.toNat eU:=⟨_,rfl⟩;rw[<-hz]at e3 hbq;obtain⟨m,o⟩:=z;simp only at hbq;have l4:(ts.map eD.pv).length=ts.length:=aL ..;simp only[dr.pv]at e1;simp only[dS]at e3;clear hR hx hz hbb;refine dY (aN @l3 @e1) ?_;refine ak (α:=Nat) (fun i=>ts.length-i) (fun j=>⟨[(1, .p 1000 0 0),(7,E' i),(8, .p 1033 0 0),(9,E' j)],[(1000,⟨0,[.v (.sl (gs.map dS)), .v (.sl (vs.map cO)), .v (.sl (es.map dr.pv))],false,none⟩),(1033,⟨0,[.v (.i .i64 gr), .v (.s tg), .v (.sl (ts.map eD.pv))],false,some 184⟩)],_⟩) (fun i=>i<=ts.length) 0 (fun _=>aD _) (aR _) ?_ ?_
        ·exact lE
        ·intro j hj R' hR'
         by_cases hjt:j<ts.length
         ·have e2:=getD_map eD.pv ts fj hjt;obtain⟨t1,t2,-,-⟩:=q5 _ (aC fj hjt);have hgo':=hR' (j+1) oO oO;have hbt:((o==[])&&vF vs (ts.getD j fj))=false:=by
           cases h0:(o==([]:Bytes))with
           |false=>rfl
           |true=>
            rw[h0]at hbq;have h2:ts.any (vF vs)=false:=by simpa using hbq
            have:=oP.1 h2 _ (aC fj hjt);simpa using this
          obtain⟨y,hy⟩: ∃y,y=ts.getD j fj:=⟨_,rfl⟩;rw[<-hy]at e2 t1 t2 hbt;obtain⟨b,v,n,a⟩:=y;simp only at t1 t2;have e4:=getD_map cO vs [] (i:=v.toNat) oO;simp only[vF]at hbt;simp only[eD.pv]at e2;clear hR' hy hbq q5;generalize vs.getD v.toNat []=u at*;simp only[cO]at e4;generalize h0:(o==([]:Bytes))=p0 at*;generalize h1:(u==([]:Bytes))=p1 at*;cases p1
          ·refine eC (aN @l2 (aN @l4 (aN @e2 (aN @e4 @h1)))) ?_;refine hgo' _ ?_;exact lE
          ·have h0:(o==([]:Bytes))=false:=by rw[h0];simpa using hbt
           refine eC (aN @l1 (aN @l2 (aN @l4 (aN @e2 (aN @e3 (aN @e4 (aN @h1 @h0))))))) ?_;refine hgo' _ ?_;exact lE
         ·obtain rfl:j=ts.length:=oO;exact ko (aN @l3 @l4) @hgo
       ·obtain rfl:i=es.length:=oO;exact gU @l3
theorem J8 {s:cK} (hs:Bo s):aE 369 [s.pv] (E 0):=by
 have h1:=GG hs.m fun b hb=>(hs.v b hb).1
 have h2:=Nu hs.m;have h3:=Ci hs.m;have h4:=QY hs;clear hs;have h5:aE 373 [s.pv] (E 0):=by
  unfold cK.pv at*;refine eW call373 func373 ?_;exact z4 @h2 @h3 @h4 oT
 unfold cK.pv at*;refine eW call369 func369 ?_;exact z2 @h1 @h5
