/- Part of the proof. -/
import Derived.Test.YtnhhajlcpjgkjaaGreatDoorUB39
set_option linter.all false
set_option maxHeartbeats 16000000
set_option maxRecDepth 100000
namespace Go.Proofs.Tryz
open Go Go.Dom Go.Num
variable {c ch ctx o sd sl x:Bytes} {k:Key} {rs:List (Bool×Bytes)} {vs:List Bytes}
noncomputable def qg (c sl ctx:Bytes) (s:cG) (w:List Int) (vs:List Bytes) (sd:Bytes):Nat->Nat->Except Int (Bytes×List Int×Nat)
 |0,_=> .error 15
 |k+1,i=>match iO (bj s.groups) c sl vs sd s.vars i []with
  | .error e=> .error e
  | .ok ms=>
   if vL (bj s.groups) c sl s.vars (dA (bj s.groups) s.vars ms w (gK (xp ctx s (oJ s ms)) c))then .ok (bQ (gK (xp ctx s (oJ s ms)) c),dA (bj s.groups) s.vars ms w (gK (xp ctx s (oJ s ms)) c),i+s.vars.length)else qg c sl ctx s w vs sd k (i+s.vars.length)
noncomputable def qd (c sl ctx:Bytes) (s:cG) (w:List Int) (vs:List Bytes) (sd:Bytes) (a:Int):Except Int (Bytes×List Int×Nat):=
 if wN s w vs a≠0 then .error (wN s w vs a)else qg c sl ctx s w vs sd 64 a.toNat
theorem Ti {s:cG} {w:List Int} {a:Int} (h:wN s w vs a=0):eT vs a=true/\w.length=s.vars.length/\tY (bj s.groups) s.vars w=true/\xr s w=true:=by
 unfold wN at h
 split at h
 ·cases h
 ·rename_i h1
  split at h
  ·cases h
  ·rename_i h2
   split at h
   ·cases h
   ·rename_i h3
    split at h
    ·cases h
    ·rename_i h4;exact⟨by simpa using h1,by simpa using h2,by simpa using h3,by simpa using h4⟩
theorem NH {s:cG} (hs:xl s) (w:List Int): ∀x∈oJ s w,x.length<=8/\aa x=true:=by
 intro x hx;obtain⟨q,hq,rfl⟩:=cE.1 hx;obtain⟨q1,q2,-⟩:=hs.q q hq;have hg:=hs.g _ (au eV (show q.lL.toNat<s.groups.length by omega))
 have hm:=(lO hg.1).2.2.1;have hlt:I5 s.groups w q<256^8:=by
  unfold I5 wc;exact jn (aQ _ oO) (dS hg.2.1)
 exact⟨o9.2 hlt,vN hlt⟩
theorem Md {s:cG} (hp:u7 c sl s) (hbd:Qn s) (h00:s.eqs≠[]) {m o:Bytes} (hg1:s.groups=[(m,o)]) (hx:ctx.length<=100000) {w:List Int} (hw6:w.length<1000000) (hw: ∀x∈w,x.natAbs<da) (hW:tY (bj s.groups) s.vars w=true->WS s w) {a:Int} (hl:vs.length<1000000) (hsd:sd.length<1000000):
  aE 40 [.agg [.s c, .s sl], .s ctx,s.pv, .sl (w.map Zp),C0, .sl [],T vs sd a] (Sp vs sd (qd c sl ctx s w vs sd a)):=by
 have hr:=hp.r;have hs:=hp.g;have hn:=xb hp;have hwt:=PO (c:=c) (sl:=sl) hs hg1 hw6 hw hW sd (a:=a) hl;unfold qd
 by_cases he:wN s w vs a=0
 ·rw[af (by simpa using he)]
  rw[he]at hwt;obtain⟨f2,f3,f4,-⟩:=Ti he;obtain⟨g1,g2,g3⟩:=tW f2;obtain⟨i0,rfl⟩: ∃i:Nat,a=i:=⟨a.toNat,oO⟩;rw[Int.toNat_natCast];have hCo:=fun(i:Nat) (hi:i<=2147483647)=>J2 hp (vs:=vs) (sd:=sd) (i:=i) g1 hi hl hsd
  have hRe:=fun(ms:List Int) (ch:Nat) (hml:ms.length=s.vars.length) (hch:ch<num c)=>GS hp f3 hml hch f4
  have hMf:=fun(i:Nat) (hi:i<=2147483647) (ms:List Int)=>pq hp (sd:=sd) (i:=i) g1 hi hl (ms:=ms)
  have hCh:=fun(fs:List Bytes)=>y5 hr hbd hx (fs:=fs)
  have hB:=fun(i:Nat) (hi:i<=2147483647)=>Qu (vs:=vs) (a:=i) sd (tV g1 hi) hl
  have hmI:=NH hs;have hii: ∀ms:List Int,oJ s ms≠[]/\(oJ s ms).length<=900:=fun ms=>by
   have:=rh s ms;have ne:=hs.ne;exact⟨fun h=>h00 (eH.1 (by rw[<-this,h];rfl)),oO⟩
  obtain⟨R0,hR0⟩: ∃R0,R0=qg c sl ctx s w vs sd 64 i0:=⟨_,rfl⟩;rw[<-hR0];obtain⟨gs,us,es⟩:=s;simp only[X0,cG.pv]at hn hwt hCo hRe hCh hMf hg1⊢;subst hg1;obtain⟨oq,hoq⟩: ∃oq,oq=bj [(m,o)]:=⟨_,rfl⟩;simp only[bV,ca,dO,<-hoq]at hn hwt hCo hRe hCh hMf f4⊢;refine eW call40 func40 ?_;refine zl2 @hn @hwt ?_;refine ak (α:=Nat×Nat) (fun p=>64-p.1) (fun p=>⟨[(1, .v (.s ctx)),(3, .v (.sl (w.map Zp))),(5, .v (.sl [])),(7, .p 1000 0 0),(9, .p 1001 0 0),(11, .p 1002 0 0),(13, .p 1003 0 0),(14, .p 1004 0 0),(15, .p 1005 0 0),(17, .p 1014 0 0),(50,E' p.1)],[(1000,⟨0,[.v (.s c), .v (.s sl)],false,none⟩),(1001,⟨0,[.v (.sl [G m o]), .v (.sl (us.map cz)), .v (.sl (es.map c9.pv))],false,none⟩),(1002,⟨0,[.v (.sl []), .v (.sl [])],false,none⟩),(1003,⟨0,[.v (.sl (vs.map .s)), .v (.s sd), .v (.i .i64 ((p.2:Nat):Int))],false,none⟩),(1004,⟨0,[.v (.s []), .sn, .sn, .sn],false,some 48⟩),(1005,⟨0,[.sn, .v (.s []), .v (.i .i64 0)],false,some 41⟩),(1014,⟨0,[.v (.s c), .v (.s sl), .v (.sl [G m o]), .v (.sl (us.map cz)), .v (.sl (es.map c9.pv)), .v (.sl []), .v (.sl []), .v (.s [])],false,some 156⟩)],1028⟩) (fun p=>p.1<=64/\p.2<=2147483647/\R0=qg c sl ctx ⟨[(m,o)],us,es⟩ w vs sd (64-p.1) p.2) (0,i0) (fun _=>dr rfl) ⟨aO _,oO,hR0⟩ ?_ ?_
  ·exact lE
  ·clear hn hwt hR0 he f2;rintro⟨k,i⟩ ⟨hk,hi,hR0⟩ R hR;simp only at hk hi hR0
   by_cases hlt:k<64
   ·obtain⟨q,hq⟩: ∃q,64-k=q+1:=⟨63-k,oO⟩;rw[hq,qg]at hR0;simp only[<-hoq]at hR0;have hCo:=hCo i hi
    cases hM:iO oq c sl vs sd us i []with
    |error e=>
     simp only[hM]at hR0 hCo;subst hR0;have he:(e !=0)=true:=by rcases uf hM with rfl|rfl<;>rfl
     simp only[CJ]at hCo;clear hR;exact jE @he @hCo
    |ok ms=>
     simp only[hM]at hR0 hCo;simp only[CJ]at hCo;obtain⟨m1,m2,m3,m4⟩:=hMf i hi ms hM;have hii:=hii ms;have hCh:=hCh (oJ ⟨[(m,o)],us,es⟩ ms) hii.1 hii.2 (fun x hx=>by have:=(hmI _ x hx).1;omega)
     have hlc:=wK (xp ctx ⟨[(m,o)],us,es⟩ (oJ ⟨[(m,o)],us,es⟩ ms)) hr.c2;have hRe:=hRe ms _ m1 hlc m2;generalize gK (xp ctx ⟨[(m,o)],us,es⟩ (oJ ⟨[(m,o)],us,es⟩ ms)) c=z at*;have hB:=hB (i+us.length) m3;generalize oJ ⟨[(m,o)],us,es⟩ ms=L at*;unfold xz at hRe
     by_cases hin:vL oq c sl us (dA oq us ms w z)=true
     ·rw[ah hin]at hR0 hRe;subst hR0;generalize dA oq us ms w z=rs at*;clear hR hMf m2 m4 hmI hM f4;exact z4 @hCo @hB @hCh @hRe
     ·rw[af hin]at hR0 hRe;have hgo:=hR (k+1,i+us.length) ⟨oO,m3,by rw[show 64-(k+1)=q by omega];exact hR0⟩ (by simp only;omega)
      clear hR hMf m2 m4 hmI hM f4;exact zg4 @hgo @hCo @hB @hCh @hRe
   ·obtain rfl:k=64:=oO;simp only[ic,qg]at hR0;subst hR0;clear hR hRe hCh hCo hMf hB;exact z0
 ·rw[ah he];have hb:(wN s w vs a==0)=false:=by simpa using he
  have hb2:(wN s w vs a !=0)=true:=by simpa using he
  generalize wN s w vs a=e at*;obtain⟨gs,us,es⟩:=s;simp only[X0,cG.pv]at hn hwt⊢;refine eW call40 func40 ?_;exact xi (aN @hb @hb2) @hn @hwt
def tG (b:Bytes) (x:Bool×Bytes) (L:Nat):Bool:=decide (num x.2<L)&& !(b==[]&&x.1)
theorem Ps (b:Bytes) {n:Bool} {a:Bytes} (va:aa a=true) {L:Nat} (hL:L<da):aE 442 [cz b,N L, .agg [.b n, .s a]] (.b (tG b (n,a) L)):=by
 have hc:=EY (jL va) hL;rw[dN va]at hc;have hd: ∀ _:True,decide (aW (num a) L<0)=decide (num a<L):=fun _=>by rw[cX];simp only[bw];exact fx
 generalize aW (num a) L=cm at*;unfold cz tG;simp only;generalize decide (num a<L)=p at*;generalize hb:(b==([]:Bytes))=q at*
 cases p<;>cases q<;>cases n<;>
 ·refine eW call442 func442 ?_;exact jE (aN @hb (hd oT)) @hc
def FC (o c sl:Bytes) (vs:List Bytes) (l:List (Bool×Bytes)):Bool:=(List.range vs.length).all fun i=>tG (vs.getD i []) (l.getD i fm) (lR o c sl (vs.getD i []))
def eA (o c sl:Bytes) (vs:List Bytes) (ch:Bytes) (l:List (Bool×Bytes)):Int:=
 if !(aa ch&&l.all cg)then 3 else if num c<=num ch then 2 else if l.length≠vs.length then 6 else if !FC o c sl vs l then 2 else 0
noncomputable def j8 (c sl:Bytes) (s:cG) (ch:Bytes) (l:List (Bool×Bytes)):List PV:=
 if eA (bj s.groups) c sl s.vars ch l=0 then s.eqs.map fun q=>N (gn s.groups ch l q)else[]
theorem FD {l:List (Bool×Bytes)} {i:Nat} (hi:i<vs.length) (h: ¬tG (vs.getD i []) (l.getD i fm) (lR o c sl (vs.getD i []))=true):FC o c sl vs l=false:=by
 unfold FC;rw[dn];intro g;exact h (bH.1 g i (fN.2 hi))
theorem wa {l:List (Bool×Bytes)} (h: ∀i,i<vs.length->tG (vs.getD i []) (l.getD i fm) (lR o c sl (vs.getD i []))=true):FC o c sl vs l=true:=by
 unfold FC;rw[bH];intro i hi;exact h i (fN.1 hi)
theorem JK {s:cG} (hp:u7 c sl s) (h1:s.eqs≠[]) {l:List (Bool×Bytes)} (hll:l.length<1000000):aE 352 [.agg [.s c, .s sl],s.pv, .s ch, .sl (l.map cI)] (.tup [.sl (j8 c sl s ch l),E (eA (bj s.groups) c sl s.vars ch l)]):=by
 have hr:=hp.r;have hs:=hp.g;have hb:=Gk hp;have lo:=(dc hs.g).2;clear hp;have vh:=aI ch;have hi:=Py l hll;have l5:(l.map cI).length=l.length:=aG ..;have l2:(s.vars.map cz).length=s.vars.length:=aG ..;have l6:(s.vars.map fun b=>N (lR (bj s.groups) c sl b)).length=s.vars.length:=aG ..
 have nv:=hs.nv
 by_cases g1:aa ch=true/\l.all cg=true
 case neg=>
  have e:(aa ch&&l.all cg)=false:=by rw[dn];intro g;simp at g;exact g1 ⟨g.1,by simpa[bH]using g.2⟩
  have e2:eA (bj s.groups) c sl s.vars ch l=3:=by simp only[eA,e];rfl
  rw[j8,af (by rw[e2];decide),e2]
  clear e2 hs;unfold cG.pv at*;generalize aa ch=b1 at*;generalize l.all cg=b2 at*;refine eW call352 func352 ?_;repeat' first|simp only[go_sem,seval]|refine cP hb ?_|refine cP vh ?_|refine cP hi ?_|refine oE ?_|apply xX<;>intro hc
  all_goals (exfalso;simp_all)
 obtain⟨vc,hok⟩:=g1;rw[vc]at vh;rw[hok]at hi;have hcm:=j6 vc hr.vc
 by_cases g2:num c<=num ch
 ·have e2:eA (bj s.groups) c sl s.vars ch l=2:=by simp only[eA,vc,hok];rw[af (by simp),ah g2]
  have hd: ∀ _:True,decide (aW (num ch) (num c)>=0)=true:=fun _=>aU (fT.2 g2)
  rw[j8,af (by rw[e2];decide),e2]
  generalize aW (num ch) (num c)=cm at*;clear e2 hs;unfold cG.pv at*;refine eW call352 func352 ?_;exact wO (hd oT) @hb @vh @hi @hcm
 have hd: ∀ _:True,decide (aW (num ch) (num c)>=0)=false:=fun _=>bu (fun g=>g2 (fT.1 g))
 by_cases g3:l.length=s.vars.length
 case neg=>
  have e2:eA (bj s.groups) c sl s.vars ch l=6:=by simp only[eA,vc,hok];rw[af (by simp),af g2,ah g3]
  rw[j8,af (by rw[e2];decide),e2]
  generalize aW (num ch) (num c)=cm at*;clear e2 hs;unfold cG.pv at*;refine eW call352 func352 ?_;repeat' first|simp only[go_sem,seval,hd oT,l5,l2]|refine cP hb ?_|refine cP vh ?_|refine cP hi ?_|refine cP hcm ?_|refine oE ?_|apply xX<;>intro hc
  all_goals (exfalso;omega)
 have hms:=DC hs.m h1 vc g3 (bH.1 hok);have hv:=hs.v;have hval: ∀x∈l,aa x.2=true:=fun x hx=>by
  have:=bH.1 hok x hx;simp only[cg,aZ]at this;exact this.1
 have e0:eA (bj s.groups) c sl s.vars ch l=if !FC (bj s.groups) c sl s.vars l then 2 else 0:=by
  simp only[eA,vc,hok];rw[af (by simp),af g2,af oO]
 unfold j8;rw[e0];clear e0 hs hok;obtain⟨gs,vs,es⟩:=s;simp only at*;generalize bj gs=o at*;unfold cG.pv at*;simp only at*;generalize aW (num ch) (num c)=cm at*;refine eW call352 func352 ?_;refine tj (aN (hd oT) (aN @l5 @l2)) @hb @vh @hi @hcm ?_;refine ak (α:=Nat) (fun i=>vs.length-i) (fun i=>⟨[(2, .v (.s ch)),(3, .v (.sl (l.map cI))),(5, .p 1001 0 0),(11, .v (.sl (vs.map fun b=>N (lR o c sl b)))),(45, .v (.sl (vs.map cz))),(46,E' vs.length),(47,E' i)],[(1001,⟨0,[.v (.sl (gs.map dO)), .v (.sl (vs.map cz)), .v (.sl (es.map c9.pv))],false,none⟩)],_⟩) (fun i=>i<=vs.length/\ ∀j,j<i->tG (vs.getD j []) (l.getD j fm) (lR o c sl (vs.getD j []))=true) 0 (fun _=>aD _) ⟨aO _,fun j hj=>oO⟩ ?_ ?_
 ·exact lE
 ·rintro i ⟨hi',hf⟩ R hR
  by_cases hlt:i<vs.length
  ·have e1:=getD_map cz vs [] hlt;have e2:=getD_map (fun b=>N (lR o c sl b)) vs [] hlt
   have hlt2:i<l.length:=oO;have e3:=getD_map cI l fm hlt2;obtain⟨k1,k3⟩:=hv _ (au [] hlt);have kv:=hval _ (au fm hlt2);have ad:aE 442 [cz (vs.getD i []),N (lR o c sl (vs.getD i [])),cI (l.getD i fm)] (.b (tG (vs.getD i []) (l.getD i fm) (lR o c sl (vs.getD i [])))):=Ps (vs.getD i []) (n:=(l.getD i fm).1) kv (zC hr lo k3);have hgo:=hR (i+1)
   by_cases hc2:tG (vs.getD i []) (l.getD i fm) (lR o c sl (vs.getD i []))=true
   ·have hgo:=hgo ⟨oO,fun j hj=>by
     by_cases e:j=i
     ·rw[e];exact hc2
     ·exact hf j oO⟩ oO
    rw[hc2]at ad;clear hR hf hc2 kv k1 k3;generalize lR o c sl (vs.getD i [])=L at*;generalize vs.getD i []=b at*;obtain⟨x,hx⟩: ∃x,x=l.getD i fm:=⟨_,rfl⟩;rw[<-hx]at ad e3;clear hx;obtain⟨xn,xa⟩:=x;simp only[cz,cI]at*;exact js (aN @l2 (aN @l5 (aN @l6 (aN @e1 (aN @e2 @e3))))) @hgo @ad
   ·rw[FD hlt hc2];rw[dn.2 hc2]at ad;clear hR hf hgo hc2 kv k1 k3;generalize lR o c sl (vs.getD i [])=L at*;generalize vs.getD i []=b at*;obtain⟨x,hx⟩: ∃x,x=l.getD i fm:=⟨_,rfl⟩;rw[<-hx]at ad e3;clear hx;obtain⟨xn,xa⟩:=x;simp only[cz,cI]at*;exact jE (aN @l2 (aN @l5 (aN @l6 (aN @e1 (aN @e2 @e3))))) @ad
  ·obtain rfl:i=vs.length:=oO;rw[wa hf];exact jE @l2 @hms
theorem Fg {α:Type} {f:Nat->α->Nat} {m:Nat} (h: ∀x a,f x a<m): ∀(l:List α) (x:Nat),x<m->l.foldl f x<m
 |[],_,hx=>hx
 |a::l,x,_=>Fg h l _ (h x a)
theorem IZ {s:cG} (hs:xl s) (ch:Bytes) (rs:List (Bool×Bytes)): ∀x∈ph s ch rs,x.length<=8/\aa x=true:=by
 intro x hx;obtain⟨q,hq,rfl⟩:=cE.1 hx;obtain⟨q1,q2,-⟩:=hs.q q hq;have hg:=hs.g _ (au eV (show q.lL.toNat<s.groups.length by omega))
 have hm:=(lO hg.1).2.2.1;have hlt:gn s.groups ch rs q<256^8:=by
  refine jn ?_ (dS hg.2.1);unfold gn;exact Fg (fun x a=>aQ _ oO) _ _ (aQ _ oO)
 exact⟨o9.2 hlt,vN hlt⟩
theorem Hw {s:cG} (hp:u7 c sl s) (h0:s.vars≠[]) (h00:s.eqs≠[]) (h1:rs.length<1000000) (hf:fV c s.vars.length ch rs [] []=0) (hi:eA (bj s.groups) c sl s.vars ch rs≠0):
  aE 279 [X0 c sl s,wE ch rs [] []] (.tup [PZ0,B0,E (eA (bj s.groups) c sl s.vars ch rs)]):=by
 have hfo:=CT (c:=c) (sl:=sl) hp.r.vc s ch rs [] [] h1 (by simp) (by simp) (by simp)
 rw[hf]at hfo;have hfi:=JK hp h00 (ch:=ch) (l:=rs) h1;have hl:j8 c sl s ch rs=[]:=by unfold j8;rw[af hi]
 rw[hl]at hfi;have hb:(eA (bj s.groups) c sl s.vars ch rs==0)=false:=by simpa using hi
 generalize eA (bj s.groups) c sl s.vars ch rs=e at*;obtain⟨gq,vs,es⟩:=s;simp only[X0,wE,cG.pv]at hfo hfi⊢;refine eW call279 func279 ?_;repeat' first|simp only[go_sem,seval,hb]|refine cP hfo ?_|refine cP hfi ?_|refine oE ?_|apply xX<;>intro hc
 all_goals skip
theorem Hx {s:cG} (hp:u7 c sl s) (h0:s.vars≠[]) (h00:s.eqs≠[]) (h1:rs.length<1000000) (hf:fV c s.vars.length ch rs [] []=0) (hi:eA (bj s.groups) c sl s.vars ch rs=0):
  aE 279 [X0 c sl s,wE ch rs [] []] (.tup [.agg [.sl (s.eqs.map fun q=>N (gn s.groups ch rs q)), .s ch, .sl (rs.map cI)],B0,E 0]):=by
 have hfo:=CT (c:=c) (sl:=sl) hp.r.vc s ch rs [] [] h1 (by simp) (by simp) (by simp)
 rw[hf]at hfo;have hfi:=JK hp h00 (ch:=ch) (l:=rs) h1;have hl:j8 c sl s ch rs=s.eqs.map fun q=>N (gn s.groups ch rs q):=by unfold j8;rw[ah hi]
 rw[hl,hi]at hfi;have hrs:rs≠[]:=by
  intro h;subst h;unfold fV at hf;have hv:([]:List (Bool×Bytes)).length≠s.vars.length:=by
   intro h;exact h0 (eH.1 h.symm)
  split at hf
  ·exact aP hf oC
  ·rw[ah (.inl hv)]at hf;exact aP hf oC
 have hcl:=J1 hrs h1;have hcn:=Io;generalize (s.eqs.map fun q=>N (gn s.groups ch rs q))=fl at*
 obtain⟨gq,vs,es⟩:=s;simp only[X0,wE,cG.pv,ca]at hfo hfi⊢;refine eW call279 func279 ?_;exact zu4 @hfo @hfi @hcl @hcn
noncomputable def AL (c sl ctx:Bytes) (s:cG) (ch:Bytes) (rs:List (Bool×Bytes)) (gs:List Bytes) (ls:List (List (Bool×Bytes))):Int:=
 if fV c s.vars.length ch rs gs ls≠0 then fV c s.vars.length ch rs gs ls else if eA (bj s.groups) c sl s.vars ch rs≠0 then eA (bj s.groups) c sl s.vars ch rs else if bQ (gK (xp ctx s (ph s ch rs)) c)=ch then 0 else 16
theorem Nj {s:cG} (hp:u7 c sl s) (hb:Qn s) (h00:s.eqs≠[]) (hx:ctx.length<=100000) {gs:List Bytes} {ls:List (List (Bool×Bytes))} (h1:rs.length<1000000) (h2:gs.length<=1000) (h3:ls.length<=1000) (h4: ∀l∈ls,l.length<4611686018427387904):
  aE 153 [.agg [.s c, .s sl], .s ctx,s.pv,C0,wE ch rs gs ls] (E (AL c sl ctx s ch rs gs ls)):=by
 have hn:=xb hp;unfold AL
 by_cases hf:fV c s.vars.length ch rs gs ls=0
 ·obtain⟨rfl,rfl⟩:=BO hf;rw[af (by simpa using hf)]
  by_cases hi:eA (bj s.groups) c sl s.vars ch rs=0
  ·rw[af (by simpa using hi)]
   have ho:=Hx hp hb.v0 h00 h1 hf hi;have hmap:(s.eqs.map fun q=>N (gn s.groups ch rs q))=(ph s ch rs).map .s:=by unfold ph;rw[ig];rfl
   rw[hmap]at ho;have f0:ph s ch rs≠[]:=by unfold ph;simpa using h00
   have fl: ∀x∈ph s ch rs,x.length<=100000:=fun x hx=>by have:=(IZ hp.g ch rs x hx).1;omega
   have fn:(ph s ch rs).length<=900:=by unfold ph;rw[aG];have:=hp.g.ne;omega
   generalize ph s ch rs=fs at*;have hc:=y5 hp.r hb hx f0 fn fl;have ha:=GV (c:=c) (sl:=sl) s B0 (bQ (gK (xp ctx s fs) c));generalize gK (xp ctx s fs) c=z at*;obtain⟨gq,vs,es⟩:=s;simp only[X0,wE,cG.pv,ca]at hn ho hc ha⊢;clear hp hb h2 h3 h4 hf hi hmap
   by_cases hz:bQ z=ch
   ·rw[ah hz];have hz1:(bQ z==ch)=true:=by simpa using hz
    refine eW call153 func153 ?_;exact Tl @hz1 @hn @ho @hc @ha
   ·rw[af hz];have hz1:(bQ z==ch)=false:=by simpa using hz
    refine eW call153 func153 ?_;exact Tl @hz1 @hn @ho @hc @ha
  ·rw[ah hi];have ho:=Hw hp hb.v0 h00 h1 hf hi;have hb:(eA (bj s.groups) c sl s.vars ch rs==0)=false:=by simpa using hi
   generalize eA (bj s.groups) c sl s.vars ch rs=e at*;obtain⟨gq,vs,es⟩:=s;simp only[X0,wE,cG.pv,ca]at hn ho⊢;refine eW call153 func153 ?_;exact xi @hb @hn @ho
 ·rw[ah hf];have ho:=Lg hp.r h1 h2 h3 h4 hf (sl:=sl);have hb:(fV c s.vars.length ch rs gs ls==0)=false:=by simpa using hf
  generalize fV c s.vars.length ch rs gs ls=e at*;obtain⟨gq,vs,es⟩:=s;simp only[X0,wE,cG.pv]at hn ho⊢;refine eW call153 func153 ?_;exact xi @hb @hn @ho
def jH (k:Key) (n:Bytes):Bytes:=[105,115,115,117,101,32]++k.name++[46]++n
def e9 (p:cA) (k:Key) (c:Bytes):cG:=⟨[(k.m,k.o)],[p.bl,p.se],[⟨0,c,[xC k.s 0,xC (k.r.getD 0 []) 1]⟩]⟩
theorem IB (k:Key) (n:Bytes) (hk:k.name.length<=1000) (hn:n.length<=1000):aE 41 [k.pv, .s n] (.s (jH k n)):=by
 unfold Key.pv jH;refine eW call41 func41 ?_;repeat' first|simp only[go_sem,seval,bU]|refine oE ?_|apply xX<;>intro hc
 all_goals rfl
theorem IE (p:cA) (k:Key) (c:Bytes) (h0:0<k.r.length) (hl:k.r.length<1000000):aE 42 [p.pv,k.pv, .s c] (e9 p k c).pv:=by
 have e1:=gU (l:=k.r) (x:=0) h0;have l1:(k.r.map PV.s).length=k.r.length:=aG ..;have hp: ∀ _:True,(0:Int)<(k.r.length:Int):=fun _=>oO
 unfold e9 Key.pv cA.pv cG.pv;generalize k.r.getD 0 []=r0 at*;simp only[c9.pv,bV,ca,dM.pv,xC];refine eW call42 func42 ?_;exact jE (aN @l1 (aN @e1 (hp oT))) @Uw
theorem vP {pe:Int} (h:fb pe k=0):2<=k.r.length:=by
 unfold fb at h;repeat (split at h; ·first|exact aP h oC|(rename_i g;exact aP h g))
 omega
theorem iU (hk:pY k) (h:dK k.m [] x=true):jJ k.m k.o x=true:=by rw[hk.o];unfold jJ;rw[ah (by simp)];exact h
theorem qz (hk:pY k):gE k.m k.o=0:=by rw[hk.o,Hh];exact WE.2 hk.gd
theorem xd {p:cA} (h:eN p=0):(∀x∈p.eL,aa x=true)/\ ∀x∈p.AG,2<=num x:=by
 unfold eN at h
 split at h
 ·rename_i hv
  split at h
  ·exact aP h oC
  ·split at h
   ·exact aP h oC
   ·rename_i ht;exact⟨bH.1 hv,fun x hx=>Ev fun g=>ht (rC.2 ⟨x,hx,by simpa using g⟩)⟩
 ·exact aP h oC
theorem Da (h:2<=num x):x≠[]:=by intro e;rw[e]at h;exact aP h oC
theorem C7 (h:0<k.r.length):k.r.getD 0 []∈C3 k:=by
 simp only[C3,cu];exact .inr (.inr (.inr (au [] h)))
theorem qt {p:cA} (hp:p.short) (hpe:eN p=0) (hk:pY k) (lm:k.m.length<=8) (h0:0<k.r.length) (hc:dK k.m [] c=true):u7 p.c p.sl (e9 p k c):=by
 obtain⟨hv,ht⟩:=xd hpe;have b2:=ht p.bl (by simp[cA.AG])
 have s2:=ht p.se (by simp[cA.AG])
 have vb:=hv p.bl (by simp[cA.eL])
 have vs:=hv p.se (by simp[cA.eL])
 have lb:=hp p.bl (by simp[cA.eL])
 have ls:=hp p.se (by simp[cA.eL])
 have nb:=Da b2;have ns:=Da s2;have lo:k.o.length<=8:=by rw[hk.o];simp
 have gs:=iU hk hk.s;have gr:=iU hk (hk.t _ (C7 h0));have gc:=iU hk hc;refine⟨SZ hp hpe,⟨⟨?_,?_,?_,?_,?_,?_⟩,?_,?_,?_,?_,?_,?_,?_⟩,?_⟩
 ·intro q hq;simp only[e9,fz]at hq;subst hq;exact⟨lm,lo⟩
 ·intro b hb;simp only[e9,cu,ir,or_false]at hb;rcases hb with rfl|rfl<;>omega
 ·intro q hq;simp only[e9,fz]at hq;subst hq;simp[xC]
 ·simp[e9]
 ·simp[e9]
 ·simp[e9]
 ·intro q hq;simp only[e9,fz]at hq;subst hq;exact⟨qz hk,lm,lo⟩
 ·intro b hb;simp only[e9,cu,ir,or_false]at hb;rcases hb with rfl|rfl<;>exact⟨by assumption,oO⟩
 ·intro q hq;simp only[e9,fz]at hq;subst hq;refine⟨Int.le_refl _,by simp[e9],gc,by simp,fun t ht=> ?_⟩
  simp only[cu,ir,or_false]at ht;rcases ht with rfl|rfl
  ·exact⟨by simp[xC],by simp[xC,e9],gs,rfl⟩
  ·exact⟨by simp[xC],by simp[xC,e9],gr,rfl⟩
 ·simp[e9]
 ·simp[e9]
 ·simp[e9]
 ·simp[C4,e9,nb,ns]
 ·intro b hb h;simp only[e9,cu,ir,or_false]at hb;rcases hb with rfl|rfl
  ·exact aP h nb
  ·exact aP h ns
theorem tM {p:cA} (hp:p.short) (hk:pY k) (lm:k.m.length<=8) (h0:0<k.r.length) (hc:dK k.m [] c=true):Qn (e9 p k c):=by
 have lb:=hp p.bl (by simp[cA.eL])
 have ls:=hp p.se (by simp[cA.eL])
 have l1:=Am lm hk.s;have l2:=Am lm (hk.t _ (C7 h0));have l3:=Am lm hc;refine⟨⟨k.m,k.o,rfl,oO,by rw[hk.o];simp⟩,by simp[e9],by simp[e9],fun b hb=> ?_,by simp[e9],fun q hq=> ?_⟩
 ·simp only[e9,cu,ir,or_false]at hb;rcases hb with rfl|rfl<;>omega
 ·simp only[e9,fz]at hq;subst hq;refine⟨Int.le_refl _,by simp,by show c.length<=1000;omega,by simp,fun t ht=> ?_⟩
  simp only[cu,ir,or_false]at ht;rcases ht with rfl|rfl
  ·exact⟨by simp[xC],by simp[xC],by show k.s.length<=1000;omega,by simp[xC]⟩
  ·exact⟨by simp[xC],by simp[xC],by show(k.r.getD 0 []).length<=1000;omega,by simp[xC]⟩
theorem ID (p:cA) (k:Key) (c:Bytes) {x y:Nat} (hx:x<(2^64)) (hy:y<(2^64)):WS (e9 p k c) [(x:Int),(y:Int)]:=by
 have hL:=kW;intro q hq;simp only[e9,fz]at hq;subst hq;intro t ht;simp only[cu,ir,or_false]at ht;rcases ht with rfl|rfl
 ·refine⟨by simp[xC],by simp[xC],rfl,?_,?_⟩
  ·show((x:Int)).natAbs<da;omega
  ·show(1:Nat)*((x:Int)).natAbs<da;omega
 ·refine⟨by simp[xC],by simp[xC],rfl,?_,?_⟩
  ·show((y:Int)).natAbs<da;omega
  ·show(1:Nat)*((y:Int)).natAbs<da;omega
theorem Gz {s:cG} {w:List Int} {rs:List Int} {j:Nat}: ∀{n i:Nat},qg c sl ctx s w vs sd n i= .ok (ch,rs,j)-> ∃ms z,z=gK (xp ctx s (oJ s ms)) c/\ch=bQ z/\rs=dA (bj s.groups) s.vars ms w z/\vL (bj s.groups) c sl s.vars rs=true
 |0,i,h=>by cases h
 |n+1,i,h=>by
  rw[qg]at h
  split at h
  ·cases h
  ·rename_i ms hms
   split at h
   ·rename_i hin;simp only[Eb,dZ]at h;obtain⟨rfl,rfl,-⟩:=h;exact⟨ms,_,rfl,rfl,rfl,hin⟩
   ·exact Gz h
theorem Lo (m x:Nat) (z:Int):dJ m x (fQ z).1 (num (fQ z).2)=gY m x z:=by
 simp only[fQ,qE,zs];rfl
theorem Lp (m x z:Nat):dJ m x (!(bQ z==[])) (num (bQ z))=gY m x (-(z:Int)):=by
 have e:(!(bQ z==([]:Bytes)))=decide (-(z:Int)<0):=by
  rw[cX];simp[fS];omega
 rw[e,ba];unfold gY;congr 1;omega
theorem OF {m x:Nat} {n:Bool} {a:Bytes} (h:cg (n,a)=true):dJ m x n (num a)=gY m x (uY (n,a)):=by
 simp only[cg,aZ,ey]at h;have e:uY (n,a)=if n then-(num a:Int)else num a:=rfl
 rw[e];cases n
 ·simp only[bM,az];unfold gY;congr 1
 ·simp only[aB];have h2:a≠[]:=by simpa using h.2
  have:=nB (bL h.1) h2;unfold gY;congr 1
  ·symm;exact aU oO
  ·omega
theorem RM {gs:List (Bytes×Bytes)} {w:List Int} {q:c9}:I5 gs w q=Ac (num (gs.getD q.lL.toNat eV).1) (q.terms.map fun t=>(num t.base,tz w t)):=by
 unfold I5;have:=So (m:=num (gs.getD q.lL.toNat eV).1) (q.terms.map fun t=>(num t.base,tz w t)) (fun p=>(p.1,fQ p.2)) (fun p=>rfl)
 rw[ig]at this;exact this
theorem Oz: ∀{gs:List (Bytes×Bytes)} {q:Bytes},gs.any (FB q)=false-> ∀g∈gs,g.2≠[]->g.2=q:=by
 intro gs q h g hg h0;have:=nR.1 h g hg;simp only[FB,aZ,ey,dL,ne_eq,not_and,Decidable.not_not]at this;exact this h0
theorem Vp {s:cG} (hp:u7 c sl s) {w ms:List Int} {z:Nat} {q:c9} (hq:q∈s.eqs) (ht:I5 s.groups w q=num q.tgt):gn s.groups (bQ z) ((dA (bj s.groups) s.vars ms w z).map fQ) q=I5 s.groups ms q:=by
 have hs:=hp.g;obtain⟨q1,q2,q3,q4,q5⟩:=hs.q q hq;have hg:=hs.g _ (au eV (show q.lL.toNat<s.groups.length by omega))
 have hgm:=au eV (show q.lL.toNat<s.groups.length by omega)
 rw[RM]at ht⊢;unfold gn;obtain⟨g,hgg⟩: ∃g,g=s.groups.getD q.lL.toNat eV:=⟨_,rfl⟩;rw[<-hgg]at hg hgm q3 q5 ht⊢;obtain⟨m,o⟩:=g;simp only at hg q3 q5 ht⊢;obtain⟨vm,vo,m1,-,hoq⟩:=lO hg.1;have hm0:0<num m:=oO;have hu: ∀t∈q.terms,GP m o (num t.base):=fun t ht=>((cJ hg.1).1 (q5 t ht).2.2.1).2
 have hr: ∀t∈q.terms,gY (num m) (num t.base) (tz (dA (bj s.groups) s.vars ms w z) t)=gY (num m) (num t.base) (tz ms t+z*tz w t):=by
  intro t ht';obtain⟨t1,t2,-,-⟩:=q5 t ht';have hv:t.var.toNat<s.vars.length:=oO;have hG:=hu t ht';unfold tz;rw[qN hv];unfold gv;split
  ·rename_i hb;have hk:=hs.k;have ha:(s.vars.any fun b=>b==[])=true:=rC.2 ⟨_,au [] hv,by rw[hb];rfl⟩
   unfold C4 at hk;rw[ha]at hk;simp only[cr,jX,aZ,ey]at hk;obtain⟨⟨hk1,hk2⟩,hk3⟩:=hk;have hbq:=bH.1 hk3 q hq;unfold Kb at hbq;rw[<-hgg]at hbq;simp only at hbq;have hmt:q.terms.any (xt s.vars)=true:=rC.2 ⟨t,ht',by unfold xt;rw[hb];rfl⟩
   rw[hmt,gi]at hbq;have ho:o≠[]:=by simpa using hbq
   have hoq:=Oz hk2 (m,o) hgm ho;simp only at hoq;rw[<-hoq];have hord:=hG.ord.resolve_left ho;refine OD hG.unit hm0 hord ⟨-(uY (t.neg,t.abs)*((ms.getD t.var.toNat 0+z*w.getD t.var.toNat 0)/num o)),?_⟩;have:=Int.mul_ediv_add_emod (ms.getD t.var.toNat 0+z*w.getD t.var.toNat 0) (num o);have e:(ms.getD t.var.toNat 0+z*w.getD t.var.toNat 0)%num o=(ms.getD t.var.toNat 0+z*w.getD t.var.toNat 0)-num o*((ms.getD t.var.toNat 0+z*w.getD t.var.toNat 0)/num o):=oO;rw[e]
   grind
  ·congr 1
   grind
 have hL:=O9 (m:=num m) (fun t:dM=>num t.base) hm0 (l:=q.terms) (fun t ht=>(hu t ht).unit) (tz w) (tz ms) (tz (dA (bj s.groups) s.vars ms w z)) z hr
 rw[ht]at hL;rw[<-hL,Lp];rw[<-OH (fun t:dM=>num t.base) hm0 _ _ (FL _ _ _)]
 have key: ∀(l:List dM) (x:Nat),(∀t∈l,t∈q.terms)->l.foldl (rU (num m) ((dA (bj s.groups) s.vars ms w z).map fQ)) x=l.foldl (fun y t=>y*gY (num m) (num t.base) (tz (dA (bj s.groups) s.vars ms w z) t)%num m) x:=by
  intro l
  induction l with
  |nil=>intro x _;rfl
  |cons t l ih=>
   intro x hl;rw[List.foldl_cons,List.foldl_cons,ih _ fun t h=>hl t (.tail _ h)]
   have ht':=hl t (.head _);obtain⟨t1,t2,-,t4⟩:=q5 t ht';congr 1;unfold rU;have aC:((dA (bj s.groups) s.vars ms w z).map fQ).getD t.var.toNat fm=fQ ((dA (bj s.groups) s.vars ms w z).getD t.var.toNat 0):=by
    have hlen:t.var.toNat<(dA (bj s.groups) s.vars ms w z).length:=by rw[qO];omega
    simp[b9,hlen]
   rw[aC,Lo,OF t4,oL (hu t ht').unit hm0];rfl
 exact key q.terms _ fun t h=>h
theorem Vo {s:cG} (hp:u7 c sl s) {w:List Int} (hh:xr s w=true) {a:Int} {rs:List Int} {j:Nat} (h:qd c sl ctx s w vs sd a= .ok (ch,rs,j)):AL c sl ctx s ch (rs.map fQ) [] []=0:=by
 unfold qd at h
 split at h
 ·cases h
 obtain⟨ms,z,hz,rfl,hrs,hin⟩:=Gz h;have hc:=hp.r;have hc2:=hc.c2;have hzc:z<num c:=by rw[hz];exact wK _ oO
 have hlc:=dS hc.lc;have hrl:rs.length=s.vars.length:=by rw[hrs];exact qO ..
 have hov:=dc hp.g.g;have hall: ∀i,i<s.vars.length->fM (s.vars.getD i []) (rs.getD i 0) (lR (bj s.groups) c sl (s.vars.getD i []))=true:=fun i hi=>bH.1 hin i (fN.2 hi)
 have hLI: ∀x∈rs,x.natAbs<da:=fun x hx=>by
  obtain⟨i,hi,rfl⟩:=ia hx;have:=hall i oO;simp only[fM,aZ,bw]at this;have h2:=zC hc hov.2 (hp.g.v _ (au [] (show i<s.vars.length by omega))).2
  have h3:rs.getD i 0=rs[i]:=by simp[b9,hi]
  rw[h3]at this;omega
 have hok:(rs.map fQ).all cg=true:=by
  rw[bH];intro x hx;obtain⟨y,hy,rfl⟩:=cE.1 hx;exact og (hLI y hy)
 have a1:aa (bQ z)=true:=vN oO;have hfm:ph s (bQ z) (rs.map fQ)=oJ s ms:=by
  unfold ph oJ;refine mn fun q hq=> ?_
  rw[hrs];refine congrArg bQ (Vp hp hq ?_);have h3:=of_decide_eq_true hh;unfold oJ at h3;have h4:=List.map_eq_map_iff.1 h3 q hq;rw[<-h4,ba]
 have f1:fV c s.vars.length (bQ z) (rs.map fQ) [] []=0:=by
  unfold fV;rw[a1,hok,af (by simp),af (by simp[hrl]),af (by rw[ba];omega)]
 have f2:eA (bj s.groups) c sl s.vars (bQ z) (rs.map fQ)=0:=by
  have f3:FC (bj s.groups) c sl s.vars (rs.map fQ)=true:=wa fun i hi=>by
   have hg:(rs.map fQ).getD i fm=fQ (rs.getD i 0):=by
    have:i<rs.length:=oO;simp[b9,this]
   rw[hg];have:=hall i hi;simp only[fM,aZ,bw,ey,Et,mw]at this;simp only[tG,fQ,qE,zs,aZ,bw,ey,Et,dL,mw];exact this
  unfold eA;rw[a1,hok,f3,af (by simp),af (by rw[ba];omega),af (by simp[hrl]),af (by simp)]
 unfold AL;rw[af (by rw[f1];simp),af (by rw[f2];simp),hfm,<-hz,ah rfl]
