/- Part of the proof. -/
import Derived.Test.YthlapgdhjcddkaaGreatDoorUF37
set_option linter.all false
set_option maxHeartbeats 16000000
set_option maxRecDepth 100000
namespace Go.Dom
open Go.Num
end Go.Dom
namespace Go.Proofs.Tryz
open Go Go.Dom Go.Num
variable {c ch ctx sd sl:Bytes} {cl:ik} {vs:List Bytes}

theorem G1 {s:aT} {w:List Int} {rs:List Int} {j:Nat}: ∀{n i:Nat},Eg c sl ctx s w vs sd n i= .ok (ch,rs,j)-> ∃ms z,z=ic (L3 ctx s (wE s ms)) c/\ch=b7 z/\rs=gO (ba s.groups) s.vars ms w z/\FW (ba s.groups) c sl s.vars rs=true
 |0,i,h=>by cases h
 |n+1,i,h=>by
  rw[Eg]at h
  split at h
  ·cases h
  ·rename_i ms hms
   split at h
   ·rename_i hin;simp only[Except.ok.injEq,eJ]at h;obtain⟨rfl,rfl,-⟩:=h;exact⟨ms,_,rfl,rfl,rfl,hin⟩
   ·exact G1 h
theorem CF (m x:Nat) (z:Int):dM m x (iB z).1 (num (iB z).2)=gN m x z:=by
 simp only[iB,wO,zs];rfl
theorem Lo (m x z:Nat):dM m x (!(b7 z==[])) (num (b7 z))=gN m x (-(z:Int)):=by
 have e:(!(b7 z==([]:Bytes)))=decide (-(z:Int)<0):=by
  rw[cu];simp[jh];omega
 rw[e,bG];unfold gN;congr 1;omega
theorem Gp {m x:Nat} {n:Bool} {a:Bytes} (h:cr (n,a)=true):dM m x n (num a)=gN m x (zo (n,a)):=by
 simp only[cr,bc,fW]at h;have e:zo (n,a)=if n then-(num a:Int)else num a:=rfl
 rw[e];cases n
 ·simp only[cE,aB];unfold gN;congr 1
 ·simp only[aC];have h2:a≠[]:=by simpa using h.2
  have:=ow (bJ h.1) h2;unfold gN;congr 1
  ·symm;exact aQ oO
  ·omega
theorem Jm {gs:List (Bytes×Bytes)} {w:List Int} {q:bZ}:L5 gs w q=xZ (num (gs.getD q.ig.toNat dL).1) (q.terms.map fun t=>(num t.base,tz w t)):=by
 unfold L5;have:=Ts (m:=num (gs.getD q.ig.toNat dL).1) (q.terms.map fun t=>(num t.base,tz w t)) (fun p=>(p.1,iB p.2)) (fun p=>rfl)
 rw[iK]at this;exact this
theorem Pc: ∀{gs:List (Bytes×Bytes)} {q:Bytes},gs.any (xW q)=false-> ∀g∈gs,g.2≠[]->g.2=q:=by
 intro gs q h g hg h0;have:=kK.1 h g hg;simp only[xW,bc,fW,du,ne_eq,not_and,Decidable.not_not]at this;exact this h0
theorem Wz {s:aT} (hp:xQ c sl s) {w ms:List Int} {z:Nat} {q:bZ} (hq:q∈s.eqs) (ht:L5 s.groups w q=num q.tgt):fo s.groups (b7 z) ((gO (ba s.groups) s.vars ms w z).map iB) q=L5 s.groups ms q:=by
 have hs:=hp.g;obtain⟨q1,q2,q3,q4,q5⟩:=hs.q q hq;have hg:=hs.g _ (ai dL (show q.ig.toNat<s.groups.length by omega))
 have hgm:=ai dL (show q.ig.toNat<s.groups.length by omega)
 rw[Jm]at ht⊢;unfold fo;obtain⟨g,hgg⟩: ∃g,g=s.groups.getD q.ig.toNat dL:=⟨_,rfl⟩;rw[<-hgg]at hg hgm q3 q5 ht⊢;obtain⟨m,o⟩:=g;simp only at hg q3 q5 ht⊢;obtain⟨vm,vo,m1,-,hoq⟩:=nD hg.1;have hm0:0<num m:=oO;have hu: ∀t∈q.terms,GP m o (num t.base):=fun t ht=>((dH hg.1).1 (q5 t ht).2.2.1).2
 have hr: ∀t∈q.terms,gN (num m) (num t.base) (tz (gO (ba s.groups) s.vars ms w z) t)=gN (num m) (num t.base) (tz ms t+z*tz w t):=by
  intro t ht';obtain⟨t1,t2,-,-⟩:=q5 t ht';have hv:t.var.toNat<s.vars.length:=oO;have hG:=hu t ht';unfold tz;rw[Bd hv];unfold jl;split
  ·rename_i hb;have hk:=hs.k;have ha:(s.vars.any fun b=>b==[])=true:=m9.2 ⟨_,ai [] hv,by rw[hb];rfl⟩
   unfold uF at hk;rw[ha]at hk;simp only[dy,eH,bc,fW]at hk;obtain⟨⟨hk1,hk2⟩,hk3⟩:=hk;have hbq:=bz.1 hk3 q hq;unfold BG at hbq;rw[<-hgg]at hbq;simp only at hbq;have hmt:q.terms.any (sH s.vars)=true:=m9.2 ⟨t,ht',by unfold sH;rw[hb];rfl⟩
   rw[hmt,me]at hbq;have ho:o≠[]:=by simpa using hbq
   have hoq:=Pc hk2 (m,o) hgm ho;simp only at hoq;rw[<-hoq];have hord:=hG.ord.resolve_left ho;refine Pj hG.unit hm0 hord ⟨-(zo (t.neg,t.abs)*((ms.getD t.var.toNat 0+z*w.getD t.var.toNat 0)/num o)),?_⟩;have:=Int.mul_ediv_add_emod (ms.getD t.var.toNat 0+z*w.getD t.var.toNat 0) (num o);have e:(ms.getD t.var.toNat 0+z*w.getD t.var.toNat 0)%num o=(ms.getD t.var.toNat 0+z*w.getD t.var.toNat 0)-num o*((ms.getD t.var.toNat 0+z*w.getD t.var.toNat 0)/num o):=oO;rw[e]
   grind
  ·congr 1
   grind
 have hL:=PM (m:=num m) (fun t:dx=>num t.base) hm0 (l:=q.terms) (fun t ht=>(hu t ht).unit) (tz w) (tz ms) (tz (gO (ba s.groups) s.vars ms w z)) z hr
 rw[ht]at hL;rw[<-hL,Lo];rw[<-Gq (fun t:dx=>num t.base) hm0 _ _ (AQ _ _ _)]
 have key: ∀(l:List dx) (x:Nat),(∀t∈l,t∈q.terms)->l.foldl (o6 (num m) ((gO (ba s.groups) s.vars ms w z).map iB)) x=l.foldl (fun y t=>y*gN (num m) (num t.base) (tz (gO (ba s.groups) s.vars ms w z) t)%num m) x:=by
  intro l
  induction l with
  |nil=>intro x _;rfl
  |cons t l ih=>
   intro x hl;rw[List.foldl_cons,List.foldl_cons,ih _ fun t h=>hl t (.tail _ h)]
   have ht':=hl t (.head _);obtain⟨t1,t2,-,t4⟩:=q5 t ht';congr 1;unfold o6;have az:((gO (ba s.groups) s.vars ms w z).map iB).getD t.var.toNat eT=iB ((gO (ba s.groups) s.vars ms w z).getD t.var.toNat 0):=by
    have hlen:t.var.toNat<(gO (ba s.groups) s.vars ms w z).length:=by rw[Be];omega
    simp[bu,hlen]
   rw[az,CF,Gp t4,nf (hu t ht').unit hm0];rfl
 exact key q.terms _ fun t h=>h
theorem Wy {s:aT} (hp:xQ c sl s) {w:List Int} (hh:FT s w=true) {a:Int} {rs:List Int} {j:Nat} (h:Lq c sl ctx s w vs sd a= .ok (ch,rs,j)):BR c sl ctx s ch (rs.map iB) [] []=0:=by
 unfold Lq at h
 split at h
 ·cases h
 obtain⟨ms,z,hz,rfl,hrs,hin⟩:=G1 h;have hc:=hp.r;have hc2:=hc.c2;have hzc:z<num c:=by rw[hz];exact CZ _ oO
 have hlc:=ga hc.lc;have hrl:rs.length=s.vars.length:=by rw[hrs];exact Be ..
 have hov:=dZ hp.g.g;have hall: ∀i,i<s.vars.length->jJ (s.vars.getD i []) (rs.getD i 0) (lR (ba s.groups) c sl (s.vars.getD i []))=true:=fun i hi=>bz.1 hin i (fV.2 hi)
 have hLI: ∀x∈rs,x.natAbs<ek:=fun x hx=>by
  obtain⟨i,hi,rfl⟩:=fU hx;have:=hall i oO;simp only[jJ,bc,a8]at this;have h2:=Cs hc hov.2 (hp.g.v _ (ai [] (show i<s.vars.length by omega))).2
  have h3:rs.getD i 0=rs[i]:=by simp[bu,hi]
  rw[h3]at this;omega
 have hok:(rs.map iB).all cr=true:=by
  rw[bz];intro x hx;obtain⟨y,hy,rfl⟩:=cx.1 hx;exact tC (hLI y hy)
 have a1:ae (b7 z)=true:=vN oO;have hfm:ep s (b7 z) (rs.map iB)=wE s ms:=by
  unfold ep wE;refine mW fun q hq=> ?_
  rw[hrs];refine congrArg b7 (Wz hp hq ?_);have h3:=of_decide_eq_true hh;unfold wE at h3;have h4:=List.map_eq_map_iff.1 h3 q hq;rw[<-h4,bG]
 have f1:iT c s.vars.length (b7 z) (rs.map iB) [] []=0:=by
  unfold iT;rw[a1,hok,aa (by simp),aa (by simp[hrl]),aa (by rw[bG];omega)]
 have f2:cG (ba s.groups) c sl s.vars (b7 z) (rs.map iB)=0:=by
  have f3:DP (ba s.groups) c sl s.vars (rs.map iB)=true:=wQ fun i hi=>by
   have hg:(rs.map iB).getD i eT=iB (rs.getD i 0):=by
    have:i<rs.length:=oO;simp[bu,this]
   rw[hg];have:=hall i hi;simp only[jJ,bc,a8,fW,EN,kM]at this;simp only[qM,iB,wO,zs,bc,a8,fW,EN,du,kM];exact this
  unfold cG;rw[a1,hok,f3,aa (by simp),aa (by rw[bG];omega),aa (by simp[hrl]),aa (by simp)]
 unfold BR;rw[aa (by rw[f1];simp),aa (by rw[f2];simp),hfm,<-hz,af rfl]
theorem Tc {s:aT} (hs:xq s) (vc:ae ch=true) {w:List Int} (hwl:w.length=s.vars.length) {q:bZ} (hq:q∈s.eqs):fo s.groups ch (w.map iB) q*dM (num (s.groups.getD q.ig.toNat dL).1) (num q.tgt) false (num ch)%num (s.groups.getD q.ig.toNat dL).1=L5 s.groups w q:=by
 obtain⟨q1,q2,q3,q4,q5⟩:=hs.q q hq;have hg:=hs.g _ (ai dL (show q.ig.toNat<s.groups.length by omega))
 rw[Jm];unfold fo;obtain⟨g,hgg⟩: ∃g,g=s.groups.getD q.ig.toNat dL:=⟨_,rfl⟩;rw[<-hgg]at hg q3 q5⊢;obtain⟨m,o⟩:=g;simp only at hg q3 q5⊢;obtain⟨vm,vo,m1,-,hoq⟩:=nD hg.1;have hm0:0<num m:=oO;have hu: ∀t∈q.terms,GP m o (num t.base):=fun t ht=>((dH hg.1).1 (q5 t ht).2.2.1).2
 have hT:=((dH hg.1).1 q3).2.unit;have e0:dM (num m) (num q.tgt) (!(ch==[])) (num ch)=gN (num m) (num q.tgt) (-(num ch:Int)):=by
  have e:(!(ch==([]:Bytes)))=decide (-(num ch:Int)<0):=by
   by_cases h:ch=[]
   ·subst h;rfl
   ·have:=ow (bJ vc) h;rw[cu];simp[h];omega
  rw[e];unfold gN;congr 1;omega
 have e1:dM (num m) (num q.tgt) false (num ch)=gN (num m) (num q.tgt) (num ch:Int):=by
  unfold gN;congr 1
 have key: ∀(l:List dx) (x:Nat),(∀t∈l,t∈q.terms)->l.foldl (o6 (num m) (w.map iB)) x=l.foldl (fun y t=>y*gN (num m) (num t.base) (tz w t)%num m) x:=by
  intro l
  induction l with
  |nil=>intro x _;rfl
  |cons t l ih=>
   intro x hl;rw[List.foldl_cons,List.foldl_cons,ih _ fun t h=>hl t (.tail _ h)]
   have ht':=hl t (.head _);obtain⟨t1,t2,-,t4⟩:=q5 t ht';congr 1;unfold o6;have az:(w.map iB).getD t.var.toNat eT=iB (w.getD t.var.toNat 0):=by
    have hlen:t.var.toNat<w.length:=oO;simp[bu,hlen]
   rw[az,CF,Gp t4,nf (hu t ht').unit hm0];rfl
 rw[e0,e1,key q.terms _ (fun t h=>h),Gq (fun t:dx=>num t.base) hm0 _ _ (AQ _ _ _)]
 have hz:=AP hT hm0 (num ch:Int) (-(num ch:Int));rw[show((num ch:Int)+ -(num ch:Int))=0 by omega,wS]at hz
 have hP: ∀a b P M:Nat,b*a%M=1%M->(a*P%M)*b%M=P%M:=fun a b P M h=>by
  rw[jt,y8,cv a b,<-jt,h,jt,iL]
 rw[hP _ _ _ _ hz];exact Tq _ _
theorem W7 {s:aT} (hs:xq s) (ch:Bytes) (l:List (Bool×Bytes)) {q:bZ} (hq:q∈s.eqs):GP (s.groups.getD q.ig.toNat dL).1 (s.groups.getD q.ig.toNat dL).2 (fo s.groups ch l q):=by
 obtain⟨q1,q2,q3,q4,q5⟩:=hs.q q hq;have hg:=hs.g _ (ai dL (show q.ig.toNat<s.groups.length by omega))
 unfold fo;generalize s.groups.getD q.ig.toNat dL=g at*;obtain⟨m,o⟩:=g;simp only at hg q3 q5⊢;have m1:=(nD hg.1).2.2.1;have hT:=(((dH hg.1).1 q3).2).dM m1 (!(ch==[])) (num ch);have key: ∀(l':List dx) (x:Nat),(∀t∈l',t∈q.terms)->GP m o x->GP m o (l'.foldl (o6 (num m) l) x):=by
  intro l'
  induction l' with
  |nil=>intro x _ hx;exact hx
  |cons t r ih=>
   intro x hm hx;rw[List.foldl_cons];refine ih _ (fun t h=>hm t (.tail _ h)) (hx.mul ?_)
   exact((((dH hg.1).1 (q5 t (hm t (.head _))).2.2.1).2).dM m1 _ _).dM m1 _ _
 exact key q.terms _ (fun t h=>h) hT
theorem NP {s:aT} {l:List (Bool×Bytes)} {i:Nat} (h:i<s.eqs.length):(ep s ch l).getD i []=b7 (fo s.groups ch l (s.eqs.getD i dU)):=by
 unfold ep;simp[bu,h]
theorem SP {s:aT} {w:List Int} {i:Nat} (h:i<s.eqs.length):(wE s w).getD i []=b7 (L5 s.groups w (s.eqs.getD i dU)):=by
 unfold wE;simp[bu,h]
theorem iS (s:aT) (ch:Bytes) (l:List (Bool×Bytes)):(ep s ch l).length=s.eqs.length:=au ..
theorem Dw {o:Bytes} {l:List (Bool×Bytes)} (h:cG o c sl vs ch l=0):ae ch=true/\l.all cr=true/\num ch<num c/\l.length=vs.length/\DP o c sl vs l=true:=by
 unfold cG at h
 split at h
 ·cases h
 rename_i h1
 split at h
 ·cases h
 rename_i h2
 split at h
 ·cases h
 rename_i h3
 split at h
 ·cases h
 rename_i h4;have h1:(ae ch&&l.all cr)=true:=by simpa using h1
 rw[bc]at h1;exact⟨h1.1,h1.2,oO,Classical.not_not.1 h3,by simpa using h4⟩
theorem Ms (b:Bytes) (x:Int) (L:Nat):qM b (iB x) L=jJ b x L:=by
 unfold qM jJ iB;simp only[wO,zs];rw[show(b==([]:Bytes))=decide (b=[]) by rw[cu];simp]
theorem U9 {s:aT} (hp:xQ c sl s) {w:List Int} (hf:cG (ba s.groups) c sl s.vars ch (w.map iB)=0) (hw: ∀x∈w,x.natAbs<ek) (hW:WS s w):aH 105 [.agg [.s c, .s sl],s.pv, .agg [.sl ((ep s ch (w.map iB)).map .s), .s ch, .sl (w.map Zp)]] (E 0):=by
 obtain⟨vh,hok,hlt,hwl,hin⟩:=Dw hf;rw[au]at hwl;have hr:=hp.r;have hs:=hp.g;have hbd:=u6 hp;have v1:=aX ch;rw[vh]at v1;have v2:=xd (w.map iB) (by rw[au];have:=hs.nv;omega)
 rw[hok,iK,show(ca∘iB)=Zp from rfl]at v2
 have v3:=nA vh hr.vc;have x3:decide (a7 (num ch) (num c)>=0)=false:=aS (fun g=>by have:=dY.1 g;omega)
 have v4:=IP hs hwl hw hW;have fr:=yj vh;have lF:=iS s ch (w.map iB);have hFv:=lT hs ch (w.map iB);have hFg:=fun i h=>NP (s:=s) (ch:=ch) (l:=w.map iB) (i:=i) h
 have hIg:=fun i h=>SP (s:=s) (w:=w) (i:=i) h
 have lI:=yr s w;have hGP:=fun q h=>W7 hs ch (w.map iB) (q:=q) h
 have hMI:=fun q h=>Tc hs vh hwl (q:=q) h
 have hg:=hs.g;have hq:=hs.q;have hv:=hs.v;have lo:=(dZ hs.g).2;have nv:=hs.nv;have ne:=hs.ne;generalize ep s ch (w.map iB)=F at*;generalize wE s w=I at*;obtain⟨gs,vs,es⟩:=s;simp only at hwl hin lF hFg hIg lI hg hq hv lo nv ne hGP hMI hbd;generalize ba gs=o at*;clear hp hs hf hok hW;have l1:(gs.map cz).length=gs.length:=au ..;have l2:(vs.map bO).length=vs.length:=au ..;have l3:(es.map bZ.pv).length=es.length:=au ..;have l4:(F.map PV.s).length=es.length:=by rw[au];exact lF
 have l5:(w.map Zp).length=vs.length:=by rw[au];exact hwl
 have l6:(vs.map (lP o c sl)).length=vs.length:=au ..;have l7:(I.map PV.s).length=es.length:=by rw[au];exact lI
 unfold aT.pv at*;simp only at*;refine eW call105 func105 ?_;repeat' first|simp only[go_sem,seval,l4]|refine cP hbd ?_|refine oE ?_|apply xX<;>intro hc
 refine ah (α:=Nat) (fun i=>es.length-i) (fun i=>⟨[(3, .p 1000 0 0),(4, .p 1001 0 0),(5, .p 1002 0 0),(7, .v (.sl (vs.map (lP o c sl)))),(31, .v (.sl (F.map .s))),(32,E' es.length),(33,E' i)],[(1000,⟨0,[.v (.s c), .v (.s sl)],false,none⟩),(1001,⟨0,[.v (.sl (gs.map cz)), .v (.sl (vs.map bO)), .v (.sl (es.map bZ.pv))],false,none⟩),(1002,⟨0,[.v (.sl (F.map .s)), .v (.s ch), .v (.sl (w.map Zp))],false,none⟩)],_⟩) (fun i=>i<=es.length) 0 (fun _=>aA _) (aD _) ?_ ?_
 ·exact lE
 ·intro i hi R hR
  by_cases hit:i<es.length
  ·have e1:=fJ (show i<F.length by omega)
   have kv:=(hFv _ (ai [] (show i<F.length by omega))).2
   have c1:=aX (F.getD i []);rw[kv]at c1;have hgo:=hR (i+1) oO oO;generalize F.getD i []=x at*;clear hR hFg;exact gi (aN @l4 @e1) @hgo @c1
  ·obtain rfl:i=es.length:=oO;clear hR;repeat' first|simp only[go_sem,seval,l2,l3,l4,l5,x3]|refine cP v1 ?_|refine cP v2 ?_|refine cP v3 ?_|refine oE ?_|apply xX<;>intro hc
   refine ah (α:=Nat) (fun i=>vs.length-i) (fun i=>⟨[(4, .p 1001 0 0),(5, .p 1002 0 0),(7, .v (.sl (vs.map (lP o c sl)))),(77, .v (.sl (vs.map bO))),(78,E' vs.length),(79,E' i)],[(1001,⟨0,[.v (.sl (gs.map cz)), .v (.sl (vs.map bO)), .v (.sl (es.map bZ.pv))],false,none⟩),(1002,⟨0,[.v (.sl (F.map .s)), .v (.s ch), .v (.sl (w.map Zp))],false,none⟩)],_⟩) (fun i=>i<=vs.length) 0 (fun _=>aA _) (aD _) ?_ ?_
   ·exact lE
   ·intro i hi R hR
    by_cases hit:i<vs.length
    ·have e1:=getD_map bO vs [] hit;have e2:=getD_map Zp w 0 (i:=i) oO;have e3:=getD_map (lP o c sl) vs [] hit;have kb:=hv _ (ai [] hit);have kw:=hw _ (ai 0 (show i<w.length by omega))
     have hgw:(w.map iB).getD i eT=iB (w.getD i 0):=by
      have:i<w.length:=oO;simp[bu,this]
     have hA:jJ (vs.getD i []) (w.getD i 0) (lR o c sl (vs.getD i []))=true:=by
      have:=bz.1 hin i (fV.2 hit);rw[hgw,Ms]at this;exact this
     have c1:=uZ (vs.getD i []) kw (Cs (o:=o) hr lo kb.2);rw[hA]at c1;have hgo:=hR (i+1) oO oO;clear hR hA kb kw hgw;simp only[lP]at e3;generalize lR o c sl (vs.getD i [])=L at*;generalize lM o c sl (vs.getD i [])=L2 at*;generalize vs.getD i []=b at*;generalize w.getD i 0=x at*;simp only[bO]at e1 c1;simp only[Zp,ca,iB]at e2 c1;exact gi (aN @l2 (aN @l5 (aN @l6 (aN @e1 (aN @e2 @e3))))) @hgo @c1
    ·obtain rfl:i=vs.length:=oO;clear hR;repeat' first|simp only[go_sem,seval,l2,l3]|refine oE ?_|apply xX<;>intro hc
     refine ah (α:=Nat) (fun i=>es.length-i) (fun i=>⟨[(4, .p 1001 0 0),(5, .p 1002 0 0),(99, .v (.sl (es.map bZ.pv))),(100,E' es.length),(101,E' i)],[(1001,⟨0,[.v (.sl (gs.map cz)), .v (.sl (vs.map bO)), .v (.sl (es.map bZ.pv))],false,none⟩),(1002,⟨0,[.v (.sl (F.map .s)), .v (.s ch), .v (.sl (w.map Zp))],false,none⟩)],_⟩) (fun i=>i<=es.length) 0 (fun _=>aA _) (aD _) ?_ ?_
     ·exact lE
     ·intro i hi R hR
      by_cases hit:i<es.length
      ·have e1:=fJ (show i<F.length by omega)
       rw[hFg i hit]at e1;have e2:=getD_map bZ.pv es dU hit;obtain⟨q1,q2,q3,q4,q5⟩:=hq _ (ai dU hit);have hG:=hGP _ (ai dU hit);have hgo:=hR (i+1) oO oO;clear hR hFg hIg hMI hGP;generalize fo gs ch (w.map iB) (es.getD i dU)=M at*;generalize es.getD i dU=q at*;obtain⟨gr,tg,ts⟩:=q;simp only at q1 q2 q3 q4 q5 hG;have hgl:gr.toNat<gs.length:=oO;have e3:=getD_map cz gs dL hgl;have kg:=hg _ (ai dL hgl);generalize gs.getD gr.toNat dL=g at*;obtain⟨m,og⟩:=g;simp only at kg hG;have c1:=HG kg.2.1 kg.2.2 (b7 M);rw[WO kg.1 (vN (j5 hG.lt (ga kg.2.1))) (by rw[bG];exact hG)]at c1
       simp only[bZ.pv]at e2;simp only[cz]at e3;exact gi (aN @l1 (aN @l3 (aN @l4 (aN @e1 (aN @e2 @e3))))) @hgo @c1
      ·obtain rfl:i=es.length:=oO;clear hR;repeat' first|simp only[go_sem,seval,l3]|refine cP v4 ?_|refine oE ?_|apply xX<;>intro hc
       refine ah (α:=Nat) (fun i=>es.length-i) (fun i=>⟨[(4, .p 1001 0 0),(5, .p 1002 0 0),(15, .v (.sl (I.map .s))),(131, .v (.sl (es.map bZ.pv))),(132,E' es.length),(133,E' i)],[(1001,⟨0,[.v (.sl (gs.map cz)), .v (.sl (vs.map bO)), .v (.sl (es.map bZ.pv))],false,none⟩),(1002,⟨0,[.v (.sl (F.map .s)), .v (.s ch), .v (.sl (w.map Zp))],false,none⟩)],_⟩) (fun i=>i<=es.length) 0 (fun _=>aA _) (aD _) ?_ ?_
       ·exact lE
       ·intro i hi R hR
        by_cases hit:i<es.length
        ·have e1:=fJ (show i<F.length by omega)
         rw[hFg i hit]at e1;have e4:=fJ (show i<I.length by omega)
         rw[hIg i hit]at e4;have e2:=getD_map bZ.pv es dU hit;obtain⟨q1,q2,q3,q4,q5⟩:=hq _ (ai dU hit);have hG:=hGP _ (ai dU hit);have hm:=hMI _ (ai dU hit);have hgo:=hR (i+1) oO oO;clear hR hFg hIg hMI hGP;rw[<-hm]at e4;clear hm;generalize fo gs ch (w.map iB) (es.getD i dU)=M at*;generalize es.getD i dU=q at*;obtain⟨gr,tg,ts⟩:=q;simp only at q1 q2 q3 q4 q5 hG e4;have hgl:gr.toNat<gs.length:=oO;have e3:=getD_map cz gs dL hgl;have kg:=hg _ (ai dL hgl);generalize gs.getD gr.toNat dL=g at*;obtain⟨m,og⟩:=g;simp only at kg hG q3 e4;obtain⟨vt,hT⟩:=(dH kg.1).1 q3;have c1:=pW kg.2.1 kg.2.2 (ng:=false) (e:=ch) kg.1 hT vh rfl;have c2:=Dy kg.2.1 kg.2.2 kg.1 hG (hT.dM (nD kg.1).2.2.1 false (num ch));rw[fA vt]at c1;generalize dM (num m) (num tg) false (num ch)=Y at*;generalize M*Y%num m=XX at*;simp only[bZ.pv]at e2;simp only[cz]at e3;clear q5 hT hG q3 q4 kg;have eq1:(b7 XX==b7 XX)=true:=eY _;exact YI (aN @l1 (aN @l3 (aN @l4 (aN @l7 (aN @e1 (aN @e2 (aN @e3 (aN @e4 @eq1)))))))) @hgo @fr @c1 @c2 oT
        ·obtain rfl:i=es.length:=oO;exact fz @l3

theorem zu (l:List (List (Bool×Bytes))) (f:FuncId) (p:(List (Bool×Bytes))->Bool) (hl:l.length<4611686018427387904) (h: ∀x∈l,aH f [fj x] (.b (p x))):aH 214 [.sl (l.map fj), .fn (.func f)] (E (dk p 0 l)):=by
 have hlm:(l.map fj).length=l.length:=au ..;refine eW call214 func214 ?_;refine dh @hlm ?_;refine ah (α:=Nat) (fun i=>l.length-i) (fun i=>⟨[(0, .v (.sl (l.map fj))),(1, .v (.fn (.func f))),(7, .v (.i .i64 l.length)),(8, .v (.i .i64 (i:Nat)))],[],_⟩) (fun i=>i<=l.length/\dk p i (l.drop i)=dk p 0 l) 0 (fun _=>aA _) ⟨aD _,rfl⟩ ?_ ?_
 ·exact lE
 ·rintro i ⟨hi,hx⟩ R hR;rw[<-hx]
  by_cases hlt:i<l.length
  ·have e1:=getD_map fj l ([]:List (Bool×Bytes)) hlt;have hf:=h (l.getD i ([]:List (Bool×Bytes))) (ai ([]:List (Bool×Bytes)) hlt);have hgo:=hR (i+1);rw[<-hx,aE ([]:List (Bool×Bytes)) hlt]at hgo;rw[aE ([]:List (Bool×Bytes)) hlt];simp only[dk]at hgo⊢;clear hx hR h;obtain⟨b,hb⟩: ∃b,b=p (l.getD i ([]:List (Bool×Bytes))):=⟨_,rfl⟩;rw[<-hb]at hf hgo⊢;clear hb;obtain⟨x,hxx⟩: ∃x,x=l.getD i ([]:List (Bool×Bytes)):=⟨_,rfl⟩;rw[<-hxx]at e1 hf;clear hxx;obtain xl:=x
   try simp only[fj]at e1 hf
   cases b
   ·have hgo:=hgo ⟨oO,rfl⟩ oO;exact gi (aN @hlm @e1) @hgo @hf
   ·exact iE (aN @hlm @e1) @hf
  ·obtain rfl:i=l.length:=oO;rw[bw];repeat' first|simp only[go_sem,seval,hlm]|refine oE ?_|apply xX<;>intro hc
   all_goals simp[dk]
theorem tX (l:List (List (Bool×Bytes))) (f:FuncId) (p:(List (Bool×Bytes))->Bool) (hl:l.length<4611686018427387904) (h: ∀x∈l,aH f [fj x] (.b (p x))):aH 124 [.sl (l.map fj), .fn (.func f)] (.b (l.any p)):=by
 have hi:=zu l f p hl h;have e:decide (dk p 0 l>=0)=l.any p:=by
  rw[cu,decide_eq_true_iff];exact gZ
 refine eW call124 func124 ?_;exact iE @e @hi
theorem R7 (x:Bool×Bytes):aH 206 [ca x] (.b (!cr x)):=by
 obtain⟨n,a⟩:=x;have hv:=gY n a;have e:cr (n,a)=(ae a&& !(n&&a==[])):=rfl;rw[e];generalize (ae a&& !(n&&a==[]))=b at*;simp only[ca];refine eW call206 func206 ?_;exact z1 @hv
theorem Wp (l:List (Bool×Bytes)) (hl:l.length<4611686018427387904):aH 205 [fj l] (.b (!l.all cr)):=by
 have h1:=fL l _ _ hl R7;rw[im]at h1;unfold fj;refine eW call205 func205 ?_;exact z1 @h1
theorem Kn (ls:List (List (Bool×Bytes))) (hl:ls.length<1000000) (h: ∀l∈ls,l.length<4611686018427387904):aH 114 [.sl (ls.map fj)] (.b (ls.all fun l=>l.all cr)):=by
 have h1:=tX ls _ _ oO fun l hl=>Wp l (h l hl)
 rw[im]at h1;generalize (ls.all fun l=>l.all cr)=b at*
 refine eW call114 func114 ?_;repeat' first|simp only[go_sem,seval,y5]|refine cP h1 ?_|refine oE ?_|apply xX<;>intro hc
 all_goals rfl
abbrev Lf:=aT×Bytes×List (Bool×Bytes)
def pg:Lf:=(cC,[],[])
noncomputable def jV (x:Lf):PV:= .agg [.sl ((ep x.1 x.2.1 x.2.2).map .s), .s x.2.1, .sl (x.2.2.map ca)]
theorem zJ {gs:List Bytes} (hg:gs.length<=1000) (hgv: ∀g∈gs,ae g=true) {X:List Lf} (hX:X.length<1000000) (h: ∀x∈X,(∀y∈ep x.1 x.2.1 x.2.2,ae y=true)/\(ep x.1 x.2.1 x.2.2).length<1000000/\ae x.2.1=true/\x.2.2.all cr=true/\x.2.2.length<1000000):aH 115 [.agg [.sl (gs.map .s), .sl (X.map jV)]] (.b true):=by
 have l1:(X.map jV).length=X.length:=au ..;have c1:=ug gs oO;rw[bz.2 hgv]at c1;refine eW call115 func115 ?_;refine dh @l1 ?_;refine ah (α:=Nat) (fun i=>X.length-i) (fun i=>⟨[(1, .p 1000 0 0),(6, .v (.sl (X.map jV))),(7,E' X.length),(8,E' i)],[(1000,⟨0,[.v (.sl (gs.map .s)), .v (.sl (X.map jV))],false,none⟩)],_⟩) (fun i=>i<=X.length) 0 (fun _=>aA _) (aD _) ?_ ?_
 ·exact lE
 ·intro i hi R hR
  by_cases hit:i<X.length
  ·have e1:=getD_map jV X pg hit;obtain⟨a1,a2,a3,a4,a5⟩:=h _ (ai pg hit);have hgo:=hR (i+1) oO oO;clear hR h;generalize X.getD i pg=x at*;obtain⟨s,ch,rs⟩:=x;simp only[jV]at e1 a1 a2 a3 a4 a5;have c2:=ug (ep s ch rs) a2;rw[bz.2 a1]at c2;have c3:=ug [ch] (by simp)
   rw[show[ch].all ae=true by simp[a3]]at c3
   have c4:=Kn [rs] (by simp) (fun l hl=>by cases fa.1 hl;omega)
   rw[show([rs].all fun l=>l.all cr)=true by simpa using a4]at c4
   simp only[b8,cb,fj]at c3 c4;generalize ep s ch rs=F at*;exact YI (aN @l1 @e1) @hgo @c2 @c3 @c4 oT
  ·obtain rfl:i=X.length:=oO;exact iE @l1 @c1

structure IK (cl:ik):Prop where
 sz:QW cl
 e:kX cl=0
 lv:DI cl.gates=some cl.leaves.length
 ng:cl.gates.length<=512
 ck: ∀s∈cl.leaves,xq s
theorem F7: ∀{l:List aT},uI l=0-> ∀s∈l,mP s=0
 |[],_,s,h=>by cases h
 |a::r,h,s,hs=>by
  rw[uI]at h
  split at h
  ·rename_i g;exact aJ h g
  ·rename_i g;rcases cM.1 hs with rfl|hs
   ·exact Classical.not_not.1 g
   ·exact F7 h s hs
theorem yk (hc:QW cl) (h:kX cl=0):IK cl:=by
 have h0:=h;unfold kX at h
 split at h
 ·rename_i g;exact aJ h g
 rename_i hf;have hf:=Classical.not_not.1 hf
 split at h
 ·rename_i g;exact aJ h g
 rename_i hl;have hl:=Classical.not_not.1 hl;unfold xT at hf
 split at hf
 ·cases hf
 rename_i hn
 cases hL:DI cl.gates with
 |none=>rw[hL]at hf;cases hf
 |some x=>
  rw[hL]at hf;simp only at hf
  split at hf
  ·rename_i hx;obtain rfl:x=cl.leaves.length:=oO;exact⟨hc,h0,hL,by have:=fun h=>hn (.inl h);omega,fun s hs=>yv (hc.s s hs) (F7 hl s hs)⟩
  ·cases hf
structure ClQ (cl:ik):Prop where
 v:ae (bY cl.leaves)=true
 l:(bY cl.leaves).length<=8
 p:ia (num (bY cl.leaves))=true
 k: ∀s∈cl.leaves,ud (bY cl.leaves) s=false
 f: ∀g∈cl.gates,g.kids.length<num (bY cl.leaves)
theorem IK.q (h:IK cl) (h0:cl.leaves≠[]):ClQ cl:=by
 obtain⟨a,b,c⟩:=Hy h.e h0;have h:=h.e;unfold kX at h;rw[aa h0]at h
 split at h
 ·rename_i g;exact aJ h g
 split at h
 ·rename_i g;exact aJ h g
 split at h
 ·cases h
 split at h
 ·rename_i g;exact aJ h g
 split at h
 ·cases h
 rename_i hm
 split at h
 ·rename_i hg;exact⟨a,b,by simpa using hm,c,fun g hg'=>of_decide_eq_true (bz.1 hg g hg')⟩
 ·cases h

theorem FI {m o x:Bytes} (hE:gE m o=0) (l:m.length<=8) (h:nU m o x=true):x.length<=8:=by
 obtain⟨v,g⟩:=(dH hE).1 h;rw[show x.length=(b7 (num x)).length by rw[jr v]]
 exact lQ.2 (j5 g.lt (bM (cO m) (dp oC l)))
theorem xq.bd {s:aT} (h:xq s):Ux s:=by
 refine⟨by have:=h.ng;omega,fun g hg=> ?_,by have:=h.nv;omega,fun b hb=>by have:=(h.v b hb).2;omega,by have:=h.ne;omega,fun q hq=> ?_⟩
 ·obtain⟨-,a,b⟩:=h.g g hg;omega
 ·obtain⟨q1,q2,q3,q4,q5⟩:=h.q q hq;obtain⟨g1,g2,-⟩:=h.g _ (ai dL (show q.ig.toNat<s.groups.length by omega))
  have:=h.ng;have:=h.nv;refine⟨q1,oO,by have:=FI g1 g2 q3;omega,oO,fun t ht=> ?_⟩
  obtain⟨t1,t2,t3,-⟩:=q5 t ht;have:=(h.b.q q hq).2 t ht;exact⟨t1,oO,by have:=FI g1 g2 t3;omega,oO⟩
structure LZ (c sl ctx:Bytes) (s:aT) (cl:ik):Prop where
 lc:c.length<=8
 ls:sl.length<=8
 lx:ctx.length<=100000
 zs:qH s
 zc:QW cl
 l12:cl.leaves.length<=12
 g5:cl.gates.length<=512
 k: ∀g∈cl.gates,g.kids.length<100
theorem LZ.tl {s:aT} (h:LZ c sl ctx s cl) (hG:IK cl):(tw cl.gates).length<=100000:=by
 have:=FE hG.lv;have:=h.g5;omega
theorem wZ {s:aT} (lc:c.length<=8) (ls:sl.length<=8) (hs:qH s) (hc:QW cl) (h:ij c sl s cl=0):xQ c sl s/\IK cl/\c≠[]:=by
 unfold ij at h
 split at h
 ·rename_i g;exact aJ h g
 rename_i h1
 split at h
 ·rename_i g;exact aJ h g
 rename_i h2;have hp:=rD lc ls hs (Classical.not_not.1 h1);exact⟨hp,yk hc (Classical.not_not.1 h2),fun e=>by have:=hp.r.c2;rw[e]at this;exact aJ this oC⟩
