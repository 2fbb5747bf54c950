/-
  Part of the proof, part FA35. Own work.
-/
import Derived.Test.YtfdjchnefpefbaaGreatDoorFA34
import Derived.Test.YtfdjchnefpefbaaGreatDoorFA32
set_option linter.all false
namespace Go.Proofs.YtfdjchnefpefbaaGreatDoor
open Go Go.Dom Go.Num
set_option maxRecDepth 100000
set_option maxHeartbeats 16000000
theorem Ao (x:Bool×Bytes):aA Tryz.prog 458 [eC x] (.b (!c9 x)):=by
 obtain⟨n,a⟩:=x;have hv:=fP n a;have e:c9 (n,a)=(aa a&& !(n&&a==[])):=rfl;rw[e];generalize (aa a&& !(n&&a==[]))=b at*;simp only[eC];refine eW Tryz.call458 Tryz.func458 ?_;exact z1 @hv
theorem Nl (l:List (Bool×Bytes)) (hl:l.length<1000000):aA Tryz.prog 404 [.sl (l.map eC)] (.b (l.all c9)):=by
 have h1:=fz l _ _ oO Ao;have e:(l.all c9)= !(l.any fun x=> !c9 x):=by
  induction l with
  |nil=>rfl
  |cons x l ih=>
   have:=ih (by simp at hl;omega)
   rw[List.all_cons,List.any_cons,this]
   ·cases c9 x<;>simp
   ·exact fz l _ _ (by simp at hl;omega) Ao
 rw[e];generalize (l.any fun x=> !c9 x)=b at*
 refine eW Tryz.call404 Tryz.func404 ?_;exact z1 @h1
noncomputable def uQ (M:Nat) (l:List (Bool×Bytes)) (x:Nat) (t:fV):Nat:=
 x*cR M (cR M (num t.base) t.neg (num t.abs)) (l.getD t.var.toNat lK).1 (num (l.getD t.var.toNat lK).2)%M
noncomputable def mJ (gs:List (Bytes×Bytes)) (c:Bytes) (l:List (Bool×Bytes)) (q:eH):Nat:=
 q.terms.foldl (uQ (num (gs.getD q.me.toNat gY).1) l) (cR (num (gs.getD q.me.toNat gY).1) (num q.tgt) (!(c==[])) (num c))
theorem EB {c:Bytes} (vc:aa c=true):aA Tryz.prog 434 [.agg [.b false, .s c]] (.agg [.b (!(c==[])), .s c]):=by
 have hv:=fP false c;rw[vc]at hv;have hm:=vk true c;rw[cf]at hm;refine eW Tryz.call434 Tryz.func434 ?_;exact z2 @hv @hm
theorem BL {s:dJ} (hs:X6 s) (h0:s.eqs≠[]) {c:Bytes} (vc:aa c=true) {l:List (Bool×Bytes)} (hlen:l.length=s.vars.length) (hl: ∀x∈l,c9 x=true):aA Tryz.prog 406 [s.pv, .s c, .sl (l.map eC)] (.sl (s.eqs.map fun q=>N (mJ s.groups c l q))):=by
 obtain⟨gs,vs,es⟩:=s;obtain⟨hg,hq,ng,nv,ne⟩:=hs;simp only at hg hq ng nv ne h0 hlen;have hpos:0<es.length:=kJ.2 h0;have l1:(gs.map gO).length=gs.length:=aE ..;have l3:(es.map eH.pv).length=es.length:=aE ..;have l5:(l.map eC).length=l.length:=aE ..;have fr:=pc vc;have ng':=EB vc;have hM:dV (fun q=>N (mJ gs c l q)) 1:=⟨fun _=>rfl,fun _ y hy=>by cases dr.1 hy;rfl,fun _ _=>rfl,fun h=>absurd rfl h⟩
 have row1: ∀{i:Nat},i<es.length->bO (fun q=>N (mJ gs c l q)) (es.take (i+1))=bO (fun q=>N (mJ gs c l q)) (es.take i)++[.v (N (mJ gs c l (es.getD i kF)))]:=fun h=>by
  rw[bu kF h,dh];rfl
 have rn1:bO (fun q=>N (mJ gs c l q)) []=[]:=rfl
 unfold dJ.pv;simp only;refine eW Tryz.call406 Tryz.func406 ?_;refine eF @l3 ?_;refine ah ?_;have e1:=getD_map eH.pv es kF hpos;obtain⟨q1,q2,q3,q4,q5⟩:=hq _ (az kF hpos);have r1:=row1 hpos;obtain⟨x,hx⟩: ∃x,x=es.getD 0 kF:=⟨_,rfl⟩;rw[<-hx]at e1 q1 q2 q3 q4 q5 r1;clear hx;obtain⟨gr,tg,ts⟩:=x;simp only at q1 q2 q3 q4 q5;have hgl:gr.toNat<gs.length:=by omega
 have kg:=hg _ (az gY hgl);have e3:=getD_map gO gs gY hgl;have hmQ:mJ gs c l ⟨gr,tg,ts⟩=ts.foldl (uQ (num (gs.getD gr.toNat gY).1) l) (cR (num (gs.getD gr.toNat gY).1) (num tg) (!(c==[])) (num c)):=rfl;obtain⟨z,hz⟩: ∃z,z=gs.getD gr.toNat gY:=⟨_,rfl⟩;rw[<-hz]at q3 q5 kg e3 hmQ;clear hz;obtain⟨m,o⟩:=z;simp only at q3 q5 kg hmQ;obtain⟨vt,gt⟩:=(cL kg.1).1 q3;have m1:=(kp kg.1).2.2.1;have hzc:(!(c==[])&&c==[])=false:=by cases(c==([]:Bytes))<;>rfl
 have xe:=jX kg.2.1 kg.2.2 kg.1 gt vc hzc;rw[eV vt]at xe;have gx0:=gt.cR m1 (!(c==[])) (num c);obtain⟨x0,hx0⟩: ∃x0,x0=cR (num m) (num tg) (!(c==[])) (num c):=⟨_,rfl⟩;rw[<-hx0]at xe gx0 hmQ;rw[hmQ]at r1;clear hx0 hmQ gt vt;have l4:(ts.map fV.pv).length=ts.length:=aE ..;simp only[gO]at e3;simp only[eH.pv]at e1;refine QW (aN @l1 (aN @l3 (aN @e1 (aN @e3 @l4)))) @fr @ng' @xe ?_;refine af (α:=Nat×Nat) (fun s=>ts.length-s.1) (fun s=>⟨[(1, .v (.s c)),(2, .v (.sl (l.map eC))),(3, .p 1000 0 0),(7, .sn),(18, .v (.sl (es.map eH.pv))),(19,E' es.length),(20,E' 0),(10, .p 1018 0 0),(11, .v (N s.2)),(41, .v (.sl (ts.map fV.pv))),(42,E' ts.length),(43,E' s.1)],[(1000,⟨0,[.v (.sl (gs.map gO)), .v (.sl (vs.map dO)), .v (.sl (es.map eH.pv))],false,none⟩),(1018,⟨0,[.v (.s m), .v (.s o)],false,some 24⟩)],1036⟩) (fun s=>s.1<=ts.length/\GP m o s.2/\(ts.drop s.1).foldl (uQ (num m) l) s.2=ts.foldl (uQ (num m) l) x0) (0,x0) (fun _=>cC rfl) ⟨aH _,gx0,rfl⟩ ?_ ?_
 ·(refine AS.Le.of (by first|decide|omega) ?_ ?_<;>simp[dM,dL,aK,aj,AV.bd,AV.bd.bdL,u8,ai,ak,ar])
  skip
 ·rintro⟨j,x⟩ ⟨hj,gx,hf⟩ R' hR';simp only at hj gx hf
  by_cases hjt:j<ts.length
  ·have e2:=getD_map fV.pv ts kB hjt;obtain⟨t1,t2,t3,t4⟩:=q5 _ (az kB hjt);rw[aT kB hjt]at hf;obtain⟨y,hy⟩: ∃y,y=ts.getD j kB:=⟨_,rfl⟩;rw[<-hy]at e2 t1 t2 t3 t4 hf;obtain⟨b,v,n,a⟩:=y;simp only at t1 t2 t3 t4;rw[List.foldl_cons]at hf;obtain⟨kb1,kb2⟩:=(cL kg.1).1 t3;have hvl:v.toNat<l.length:=by omega
   have e4:=getD_map eC l lK hvl;have kr:=hl _ (az lK hvl);have hmT:uQ (num m) l x ⟨b,v,n,a⟩=x*cR (num m) (cR (num m) (num b) n (num a)) (l.getD v.toNat lK).1 (num (l.getD v.toNat lK).2)%num m:=rfl;obtain⟨w,hw⟩: ∃w,w=l.getD v.toNat lK:=⟨_,rfl⟩;rw[<-hw]at e4 kr hmT;obtain⟨rn,ra⟩:=w;simp only[c9,aY,fE]at t4 kr;have m1:=(kp kg.1).2.2.1;have x1:=jX kg.2.1 kg.2.2 kg.1 kb2 t4.1 t4.2;rw[eV kb1]at x1;have gy:=kb2.cR m1 n (num a);have x2:=jX kg.2.1 kg.2.2 kg.1 gy kr.1 kr.2;have gz:=gy.cR m1 rn (num ra);have x3:=GO kg.2.1 kg.2.2 kg.1 gx gz;have hgo':=hR' (j+1,uQ (num m) l x ⟨b,v,n,a⟩) ⟨by show j+1<= _;omega,by rw[hmT];exact gx.mul gz,hf⟩ (by show ts.length-(j+1)<ts.length-j;omega)
   rw[hmT]at hgo';clear hR' hy t3 t4 q5 hf hw kb1 kb2 gx gy gz hmT kr;simp only[fV.pv]at e2;simp only[eC]at e4;have hd3: ∀ _:True,v<(l.length:Int):=fun _=>by omega
   generalize cR (num m) (cR (num m) (num b) n (num a)) rn (num ra)=z at*;generalize cR (num m) (num b) n (num a)=y at*;refine JK (aN @l3 (aN @l4 (aN @l5 (aN @e2 @e4)))) @x1 @x2 @x3 ?_;refine hgo' _ ?_
   (refine AS.Le.of (by first|decide|omega) ?_ ?_<;>simp[dM,dL,aK,aj,AV.bd,AV.bd.bdL,u8,ai,ak,ar])
   skip
  ·obtain rfl:j=ts.length:=by omega
   rw[cX]at hf;simp only[List.foldl_nil]at hf;subst hf;refine eF (aN @l3 @l4) ?_;refine af (α:=Nat) (fun j=>es.length-(j+1)) (fun j=>⟨[(1, .v (.s c)),(2, .v (.sl (l.map eC))),(3, .p 1000 0 0),(7, .rs 1040 j 0 (j+1) 1),(18, .v (.sl (es.map eH.pv))),(19,E' es.length),(20,E' (j+1))],[(1000,⟨0,[.v (.sl (gs.map gO)), .v (.sl (vs.map dO)), .v (.sl (es.map eH.pv))],false,none⟩),(1040,⟨j,bO (fun q=>N (mJ gs c l q)) (es.take (j+1)),true,some 22⟩)],1044⟩) (fun j=>j+1<=es.length) 0 (fun _=>cC rfl) hpos ?_ ?_
   ·rw[dI,r1,List.take_zero,rn1];exact lE
   ·clear e1 e3 q1 q2 q3 q4 q5 kg gx0 xe r1 l4;intro i hi R hR;have hj1:(es.take (i+1)).length=i+1:=by rw[bU];omega
    have p1:=de hM (es.take (i+1));have p2:=dK hM (es.take (i+1));rw[hj1,dG]at p1 p2;have hw1: ∀ _:True,((i:Int)+1)=((i+1:Nat):Int):=fun _=>by omega
    by_cases hlt:i+1<es.length
    ·have hgo:=hR (i+1) oO oO;clear hR;have e1:=getD_map eH.pv es kF hlt;obtain⟨q1,q2,q3,q4,q5⟩:=hq _ (az kF hlt);have r1:=row1 hlt;obtain⟨x,hx⟩: ∃x,x=es.getD (i+1) kF:=⟨_,rfl⟩;rw[<-hx]at e1 q1 q2 q3 q4 q5 r1;clear hx;obtain⟨gr,tg,ts⟩:=x;simp only at q1 q2 q3 q4 q5;have hgl:gr.toNat<gs.length:=by omega
     have kg:=hg _ (az gY hgl);have e3:=getD_map gO gs gY hgl;have hmQ:mJ gs c l ⟨gr,tg,ts⟩=ts.foldl (uQ (num (gs.getD gr.toNat gY).1) l) (cR (num (gs.getD gr.toNat gY).1) (num tg) (!(c==[])) (num c)):=rfl;obtain⟨z,hz⟩: ∃z,z=gs.getD gr.toNat gY:=⟨_,rfl⟩;rw[<-hz]at q3 q5 kg e3 hmQ;clear hz;obtain⟨m,o⟩:=z;simp only at q3 q5 kg hmQ;obtain⟨vt,gt⟩:=(cL kg.1).1 q3;have m1:=(kp kg.1).2.2.1;have hzc:(!(c==[])&&c==[])=false:=by cases(c==([]:Bytes))<;>rfl
     have xe:=jX kg.2.1 kg.2.2 kg.1 gt vc hzc;rw[eV vt]at xe;have gx0:=gt.cR m1 (!(c==[])) (num c);obtain⟨x0,hx0⟩: ∃x0,x0=cR (num m) (num tg) (!(c==[])) (num c):=⟨_,rfl⟩;rw[<-hx0]at xe gx0 hmQ;rw[hmQ]at r1;clear hx0 hmQ gt vt;have l4:(ts.map fV.pv).length=ts.length:=aE ..;simp only[gO]at e3;simp only[eH.pv]at e1;rw[r1]at hgo;refine QW (aN @l1 (aN @l3 (aN @e1 (aN @e3 @l4)))) @fr @ng' @xe ?_;refine af (α:=Nat×Nat) (fun s=>ts.length-s.1) (fun s=>⟨[(1, .v (.s c)),(2, .v (.sl (l.map eC))),(3, .p 1000 0 0),(7, .rs 1040 i 0 (i+1) 1),(18, .v (.sl (es.map eH.pv))),(19,E' es.length),(20,E' (i+1)),(10, .p 1055 0 0),(11, .v (N s.2)),(41, .v (.sl (ts.map fV.pv))),(42,E' ts.length),(43,E' s.1)],[(1000,⟨0,[.v (.sl (gs.map gO)), .v (.sl (vs.map dO)), .v (.sl (es.map eH.pv))],false,none⟩),(1055,⟨0,[.v (.s m), .v (.s o)],false,some 24⟩),(1040,⟨i,bO (fun q=>N (mJ gs c l q)) (es.take (i+1)),true,some 22⟩)],1073⟩) (fun s=>s.1<=ts.length/\GP m o s.2/\(ts.drop s.1).foldl (uQ (num m) l) s.2=ts.foldl (uQ (num m) l) x0) (0,x0) (fun _=>cC rfl) ⟨aH _,gx0,rfl⟩ ?_ ?_
     ·(refine AS.Le.of (by first|decide|omega) ?_ ?_<;>simp[dM,dL,aK,aj,AV.bd,AV.bd.bdL,u8,ai,ak,ar])
      all_goals (intro c hc;exact eu hc)
     ·rintro⟨j,x⟩ ⟨hj,gx,hf⟩ R' hR';simp only at hj gx hf
      by_cases hjt:j<ts.length
      ·have e2:=getD_map fV.pv ts kB hjt;obtain⟨t1,t2,t3,t4⟩:=q5 _ (az kB hjt);rw[aT kB hjt]at hf;obtain⟨y,hy⟩: ∃y,y=ts.getD j kB:=⟨_,rfl⟩;rw[<-hy]at e2 t1 t2 t3 t4 hf;obtain⟨b,v,n,a⟩:=y;simp only at t1 t2 t3 t4;rw[List.foldl_cons]at hf;obtain⟨kb1,kb2⟩:=(cL kg.1).1 t3;have hvl:v.toNat<l.length:=by omega
       have e4:=getD_map eC l lK hvl;have kr:=hl _ (az lK hvl);have hmT:uQ (num m) l x ⟨b,v,n,a⟩=x*cR (num m) (cR (num m) (num b) n (num a)) (l.getD v.toNat lK).1 (num (l.getD v.toNat lK).2)%num m:=rfl;obtain⟨w,hw⟩: ∃w,w=l.getD v.toNat lK:=⟨_,rfl⟩;rw[<-hw]at e4 kr hmT;obtain⟨rn,ra⟩:=w;simp only[c9,aY,fE]at t4 kr;have m1:=(kp kg.1).2.2.1;have x1:=jX kg.2.1 kg.2.2 kg.1 kb2 t4.1 t4.2;rw[eV kb1]at x1;have gy:=kb2.cR m1 n (num a);have x2:=jX kg.2.1 kg.2.2 kg.1 gy kr.1 kr.2;have gz:=gy.cR m1 rn (num ra);have x3:=GO kg.2.1 kg.2.2 kg.1 gx gz;have hgo':=hR' (j+1,uQ (num m) l x ⟨b,v,n,a⟩) ⟨by show j+1<= _;omega,by rw[hmT];exact gx.mul gz,hf⟩ (by show ts.length-(j+1)<ts.length-j;omega)
       rw[hmT]at hgo';clear hR' hy t3 t4 q5 hf hw kb1 kb2 gx gy gz hmT kr;simp only[fV.pv]at e2;simp only[eC]at e4;have hd3: ∀ _:True,v<(l.length:Int):=fun _=>by omega
       generalize cR (num m) (cR (num m) (num b) n (num a)) rn (num ra)=z at*;generalize cR (num m) (num b) n (num a)=y at*;refine JK (aN @l3 (aN @l4 (aN @l5 (aN @e2 @e4)))) @x1 @x2 @x3 ?_;refine hgo' _ ?_
       (refine AS.Le.of (by first|decide|omega) ?_ ?_<;>simp[dM,dL,aK,aj,AV.bd,AV.bd.bdL,u8,ai,ak,ar])
       all_goals (intro c hc;exact eu hc)
      ·obtain rfl:j=ts.length:=by omega
       rw[cX]at hf;simp only[List.foldl_nil]at hf;subst hf;refine fx (aN @l3 (aN @l4 (aN @p1 @p2))) ?_;refine hgo _ ?_
       (refine AS.Le.of (by first|decide|omega) ?_ ?_<;>simp[dM,dL,aK,aj,AV.bd,AV.bd.bdL,u8,ai,ak,ar])
       all_goals (intro c hc;rcases hc with h|h<;>first|exact eu h|(subst h;rfl))
    ·obtain hjv:i+1=es.length:=by omega
     rw[hjv,cK]at p1 p2;rw[hjv,cK];have p3:=fk hM es;have p4:chunk 1 es.length (List.flatMap (fun x=>[PV.s (aO (mJ gs c l x))]) es)=es.map fun q=>N (mJ gs c l q):=dA hM es
     repeat' first|simp only[go_sem,seval,l3,p1,p2,p3,p4,e9]|refine sB ?_|apply xX<;>intro hc|refine⟨oD,?_⟩|exact oD|fail
end Go.Proofs.YtfdjchnefpefbaaGreatDoor
namespace Go.Proofs.YtfdjchnefpefbaaGreatDoor
open Go Go.Dom
set_option maxRecDepth 100000
set_option maxHeartbeats 16000000
def zm (b:Bytes) (i:Nat):fV:=⟨b,i,false,[1]⟩
structure ZU (s:dJ):Prop where
 l:s.eqs.length=s.vars.length
 t: ∀i,i<s.eqs.length-> ∃b,(s.eqs.getD i kF).terms=[zm b i]

end Go.Proofs.YtfdjchnefpefbaaGreatDoor
namespace Go.Proofs.YtfdjchnefpefbaaGreatDoor
open Go Go.Dom Go.Num
set_option maxRecDepth 100000
set_option maxHeartbeats 16000000
theorem pd {n i:Nat} {p:Nat->Bool} (hi:i<n) (h:p i=false):(List.range n).all p=false:=by
 rw[eZ];intro g;have:=bz.1 g i (cM.2 hi);rw[h]at this;cases this
theorem oz {n:Nat} {p:Nat->Bool} (h: ∀i,i<n->p i=true):(List.range n).all p=true:=by
 rw[bz];intro i hi;exact h i (cM.1 hi)
theorem Pb {L:List Bytes} {es:List eH} (hl:L.length=es.length) (h: ∀j,j<es.length->L.getD j []=(es.getD j kF).tgt):L=es.map (·.tgt):=by
 refine pI (by simpa using hl) fun j h1 h2=> ?_
 have h2:j<es.length:=by simpa using h2
 have:=h j h2;rw[aR,aR,bJ h1,bJ h2]at this;simpa using this
theorem PC {c sl b:Bytes} (hr:qU c sl) (hb:b.length<=16):Tu c sl b<dw:=ec (Nat.sub_le _ _) (Bl hr hb)
theorem II {m:Bytes} (hm:m≠[]):(m.getD (m.length-1) 0).toNat%2=num m%2:=by
 obtain⟨r,c,rfl⟩: ∃r c,m=r++[c]:=⟨_,_,(List.dropLast_concat_getLast hm).symm⟩;rw[Dx];have:(r++[c]).getD ((r++[c]).length-1) 0=c:=by simp[aR]
 rw[this];omega
theorem oS {m:Bytes} (lm:m.length<=8) {o:Bytes} (lo:o.length<=8):aA Tryz.prog 82 [G m o] (E (gE m o)):=by
 have v1:=aM m;have v2:=aM o;unfold gE
 by_cases hv:aa m=true/\aa o=true
 case neg=>
  have:(aa m&&aa o)=false:=by rw[eZ];intro g;simp at g;exact hv g
  rw[this];generalize aa m=b1 at*;generalize aa o=b2 at*;refine eW Tryz.call82 Tryz.func82 ?_;exact U1 @v1 @v2
 obtain⟨vm,vo⟩:=hv;have nm:=dY lm;have no:=dY lo;rw[vm]at v1;rw[vo]at v2
 by_cases ho:o=[]
 ·subst ho;have e0:(if !(aa m&&aa [])then(3:Int)else if(([]:Bytes)==[])then(if ie m []then 0 else 13)else if num m<=1\/num []<=1\/(num m-1)%num []≠0 then 13 else 0)=if ie m []then 0 else 13:=by
   rw[vm];rfl
  rw[e0]
  by_cases hm:m=[]
  ·subst hm;have:ie [] []=false:=by decide
   rw[this];refine eW Tryz.call82 Tryz.func82 ?_;repeat' first|simp only[go_sem,seval,nn]|refine cP v1 ?_|refine cP v2 ?_|refine sB ?_|apply xX<;>intro hc|refine⟨oD,?_⟩|exact oD|fail
  have hb:(m==([]:Bytes))=false:=by simpa using hm
  have hl:=II hm;have hlen:0<m.length:=kJ.2 hm;have hix: ∀ _:True,((m.length:Int)-1).toNat=m.length-1:=fun _=>by omega
  have hmod: ∀c:UInt8,((c.toNat:Nat):Int).tmod 2=((c.toNat%2:Nat):Int):=fun c=>rfl
  have ho8:=kT (a:=m) (b:=[8]) (bK vm) (.inr oC) oO oC;rw[show num ([8]:Bytes)=8 from rfl]at ho8
  have hle: ∀ _:True,decide (aU (num m) 8<=0)= !decide (8<num m):=fun _=>by
   rw[dE];simp only[decide_eq_true_eq,fE,decide_eq_false_iff_not];unfold aU;split<;>(try split)<;>omega
  have hg:ie m []=(decide (num m%2=1)&&decide (8<num m)):=by
   unfold ie;rw[vm,j6,Nat.pow_zero,iS];rfl
  rw[hg,<-hl];generalize aU (num m) 8=cm at*;obtain⟨c,hcc⟩: ∃c,c=m.getD (m.length-1) 0:=⟨_,rfl⟩;rw[<-hcc];clear hl hg e0;refine eW Tryz.call82 Tryz.func82 ?_;repeat' first|simp only[go_sem,seval,nn,hb,hix trivial,<-hcc,hmod,hle trivial]|refine cP v1 ?_|refine cP v2 ?_|refine cP ho8 ?_|refine sB ?_|apply xX<;>intro hc|refine⟨oD,?_⟩|exact oD|fail
  all_goals first|(simp_all;done)|(simp_all;omega)|skip
 have hb:(o==([]:Bytes))=false:=by simpa using ho
 have hop:num o≠0:=fun e=>ho ((rI vo).1 e)
 have e1:N (num m)= .s m:=congrArg PV.s (fF vm);have e2:N (num o)= .s o:=congrArg PV.s (fF vo);rw[vm,vo,hb];simp only[db,bR,aX,if_false];have q0:(m==([]:Bytes))=decide (num m=0):=by
  have:=wR (num m) 0;rw[fF vm]at this;exact this
 have q1:(m==([1]:Bytes))=decide (num m=1):=by
  have:=wR (num m) 1;rw[fF vm]at this;exact this
 have q2:(o==([1]:Bytes))=decide (num o=1):=by
  have:=wR (num o) 1;rw[fF vo]at this;exact this
 by_cases hbad:num m=0\/num m=1\/num o=1
 ·rw[if_pos oO];refine eW Tryz.call82 Tryz.func82 ?_;repeat' first|simp only[go_sem,seval,hb,q0,q1,q2]|refine cP v1 ?_|refine cP v2 ?_|refine sB ?_|apply xX<;>intro hc|refine⟨oD,?_⟩|exact oD|fail
  all_goals (exfalso;simp_all)
 have h1:=tX m [1] oO oC (show 1<=num m by omega)
 rw[show num ([1]:Bytes)=1 from rfl]at h1
 have h2:=yq (a:=aO (num m-1)) (b:=o) (gP _) (bK vo) oO (by
  have:=lN (show num m-1<18446744073709551616 by omega)
  omega) oO
 rw[aG]at h2;have hz: ∀ _:True,(aO ((num m-1)%num o)==([]:Bytes))=decide ((num m-1)%num o=0):=fun _=>by
  rw[dE];simp[fW]
 have t0:decide (num m=0)=false:=decide_eq_false oO;have t1:decide (num m=1)=false:=decide_eq_false oO;have t2:decide (num o=1)=false:=decide_eq_false oO;have ei:(if num m<=1\/num o<=1\/(num m-1)%num o≠0 then(13:Int)else 0)=if(num m-1)%num o=0 then 0 else 13:=by
  by_cases g:(num m-1)%num o=0
  ·rw[if_neg oO,if_pos g]
  ·rw[if_pos oO,if_neg g]
 rw[ei];refine eW Tryz.call82 Tryz.func82 ?_;exact Zg (aN @hb (aN @q0 (aN @q1 (aN @q2 (aN @t0 (aN @t1 (aN @t2 (hz trivial)))))))) @v1 @v2 @h1 @h2
theorem Ae {m:Bytes} (lm:m.length<=8) (o:Bytes) {x:Bytes} (hE:gE m o=0) (vx:aa x=true):aA Tryz.prog 138 [G m o, .s x] (.b (jc m o x)):=by
 by_cases ho:o=[]
 ·subst ho;obtain⟨vm,-,m1,hr,-⟩:=kp hE;have hg:=hr rfl;have lx:=cE vx;have hor:=kT (bK vx) (bK vm) oO oO;have hcm:=MG (tQ vx) (tQ vm);rw[eV vx,eV vm]at hcm;have hlt: ∀ _:True,decide (aU (num x) (num m)<0)=decide (num x<num m):=fun _=>Z8 _ _
  have e:jc m [] x=(!(x==[])&&decide (num x<num m)&&decide (Nat.gcd (num x) (num m)=1)):=by
   simp[jc,yp,hg,vx]
  rw[e];generalize aU (num x) (num m)=cm at*;refine eW Tryz.call138 Tryz.func138 ?_;repeat' first|simp only[go_sem,seval,nn,hlt trivial,Mh]|refine cP hor ?_|refine cP hcm ?_|refine sB ?_|apply xX<;>intro hc|refine⟨oD,?_⟩|exact oD|fail
  all_goals simp_all
  all_goals (intros;omega)
 ·have hb:(o==([]:Bytes))=false:=by simpa using ho
  have h:=MC lm o x;unfold jc;rw[hb];simp only[aX,if_false];refine eW Tryz.call138 Tryz.func138 ?_;exact o7 @hb @h
theorem Jc {m:Bytes} (lm:m.length<=8) {o:Bytes} (lo:o.length<=8) (x:Bytes):aA Tryz.prog 108 [G m o, .s x] (.b (lj m o x)):=by
 have h1:=oS lm lo;have hv:=aM x
 by_cases hE:gE m o=0
 ·rw[hE]at h1
  by_cases vx:aa x=true
  ·have h2:=Ae lm o hE vx;rw[vx]at hv;unfold lj;rw[hE];generalize jc m o x=b at*;refine eW Tryz.call108 Tryz.func108 ?_;exact ZQ @h1 @hv @h2
  ·have vx:aa x=false:=by simpa using vx
   rw[vx]at hv;have:lj m o x=false:=by
    rw[eZ];intro g;simp only[lj,aY]at g;have:=((cL hE).1 g.2).1;rw[vx]at this;cases this
   rw[this];refine eW Tryz.call108 Tryz.func108 ?_;exact z2 @h1 @hv
 ·have:lj m o x=false:=by simp[lj,hE]
  rw[this];generalize gE m o=z at*;refine eW Tryz.call108 Tryz.func108 ?_;exact XG @h1
theorem Jd {m:Bytes} (lm:m.length<=8) {o:Bytes} {x:Nat} {ng:Bool} {e:Bytes} (hE:gE m o=0) (hx:GP m o x) (he:aa e=true) (hz:(ng&&e==[])=false):aA Tryz.prog 140 [G m o,N x, .agg [.b ng, .s e]] (N (cR (num m) x ng (num e))):=by
 obtain⟨vm,-,m1,-,-⟩:=kp hE;have hp:=Jh (m:=num m) hx.lt he hz (dY lm) hx.Ra;rw[eV vm]at hp;refine eW Tryz.call140 Tryz.func140 ?_;exact z1 @hp



end Go.Proofs.YtfdjchnefpefbaaGreatDoor
namespace Go.Proofs.YtfdjchnefpefbaaGreatDoor
open Go Go.Dom
set_option maxRecDepth 100000
set_option maxHeartbeats 16000000
def G4 (l:List (Bool×Bytes)):PV:= .sl (l.map eC)
theorem wH (l:List (Bytes)) (f:FuncId) (p:Bytes->Bool) (hl:l.length<4611686018427387904) (h: ∀x,aA Tryz.prog f [PV.s x] (.b (p x))):aA Tryz.prog 403 [.sl (l.map PV.s), .fn (.func f)] (E (dN p 0 l)):=by
 have hlm:(l.map PV.s).length=l.length:=aE ..;refine eW Tryz.call403 Tryz.func403 ?_;refine eF @hlm ?_;refine af (α:=Nat) (fun i=>l.length-i) (fun i=>⟨[(0, .v (.sl (l.map PV.s))),(1, .v (.fn (.func f))),(7, .v (.i .i64 l.length)),(8, .v (.i .i64 (i:Nat)))],[],_⟩) (fun i=>i<=l.length/\dN p i (l.drop i)=dN p 0 l) 0 (fun _=>an _) ⟨aH _,rfl⟩ ?_ ?_
 ·exact lE
 ·rintro i ⟨hi,hx⟩ R hR;rw[<-hx]
  by_cases hlt:i<l.length
  ·have e1:=getD_map PV.s l [] hlt;have hf:=h (l.getD i []);have hgo:=hR (i+1);rw[<-hx,aT [] hlt]at hgo;rw[aT [] hlt];simp only[dN]at hgo⊢;clear hx hR h;generalize p (l.getD i [])=b at*;generalize l.getD i []=x at*;cases b
   ·have hgo:=hgo ⟨by omega,rfl⟩ oO
    exact kR (aN @hlm @e1) @hgo @hf
   ·exact o7 (aN @hlm @e1) @hf
  ·obtain rfl:i=l.length:=by omega
   rw[cX];repeat' first|simp only[go_sem,seval,hlm]|refine sB ?_|apply xX<;>intro hc|refine⟨oD,?_⟩|exact oD|fail
   all_goals simp[dN]
theorem lT (l:List (Bytes)) (f:FuncId) (p:Bytes->Bool) (hl:l.length<4611686018427387904) (h: ∀x,aA Tryz.prog f [PV.s x] (.b (p x))):aA Tryz.prog 306 [.sl (l.map PV.s), .fn (.func f)] (.b (l.any p)):=by
 have hi:=wH l f p hl h;have e:decide (dN p 0 l>=0)=l.any p:=by
  rw[dE,decide_eq_true_iff];exact ig
 refine eW Tryz.call306 Tryz.func306 ?_;exact o7 @e @hi
theorem yU (l:List (List (Bool×Bytes))) (f:FuncId) (c:List PV) (p:List (Bool×Bytes)->Bool) (hl:l.length<4611686018427387904) (h: ∀x∈l,aA Tryz.prog f (G4 x::c) (.b (p x))):aA Tryz.prog 275 [.sl (l.map G4), .fc f [] c] (E (dN p 0 l)):=by
 have hlm:(l.map G4).length=l.length:=aE ..;refine eW Tryz.call275 Tryz.func275 ?_;refine eF @hlm ?_;refine af (α:=Nat) (fun i=>l.length-i) (fun i=>⟨[(0, .v (.sl (l.map G4))),(1, .v (.fc f [] c)),(7, .v (.i .i64 l.length)),(8, .v (.i .i64 (i:Nat)))],[],_⟩) (fun i=>i<=l.length/\dN p i (l.drop i)=dN p 0 l) 0 (fun _=>an _) ⟨aH _,rfl⟩ ?_ ?_
 ·exact lE
 ·rintro i ⟨hi,hx⟩ R hR;rw[<-hx]
  by_cases hlt:i<l.length
  ·have e1:=getD_map G4 l [] hlt;have hf:=h (l.getD i []) (az [] hlt);have hgo:=hR (i+1);rw[<-hx,aT [] hlt]at hgo;rw[aT [] hlt];simp only[dN]at hgo⊢;clear hx hR h;generalize p (l.getD i [])=b at*;generalize l.getD i []=x at*;simp only[G4]at e1 hf;cases b
   ·have hgo:=hgo ⟨by omega,rfl⟩ oO
    repeat' first|simp only[go_sem,seval,hlm,e1]|(refine il hf (ml _ _) ?_)|refine sB ?_|apply xX<;>intro hc|refine⟨oD,?_⟩|exact oD|fail
    refine hgo _ ?_;exact lE
   ·repeat' first|simp only[go_sem,seval,hlm,e1]|(refine il hf (ml _ _) ?_)|refine sB ?_|apply xX<;>intro hc|refine⟨oD,?_⟩|exact oD|fail
    all_goals rfl
  ·obtain rfl:i=l.length:=by omega
   rw[cX];repeat' first|simp only[go_sem,seval,hlm]|refine sB ?_|apply xX<;>intro hc|refine⟨oD,?_⟩|exact oD|fail
   all_goals simp[dN]
theorem mR (l:List (List (Bool×Bytes))) (f:FuncId) (c:List PV) (p:List (Bool×Bytes)->Bool) (hl:l.length<4611686018427387904) (h: ∀x∈l,aA Tryz.prog f (G4 x::c) (.b (p x))):aA Tryz.prog 166 [.sl (l.map G4), .fc f [] c] (.b (l.any p)):=by
 have hi:=yU l f c p hl h;have e:decide (dN p 0 l>=0)=l.any p:=by
  rw[dE,decide_eq_true_iff];exact ig
 refine eW Tryz.call166 Tryz.func166 ?_;exact o7 @e @hi
theorem Ll (x:Bool×Bytes):aA Tryz.prog 424 [eC x] (.b (!c9 x)):=by
 obtain⟨n,a⟩:=x;have hv:=fP n a;have e:c9 (n,a)=(aa a&& !(n&&a==[])):=rfl;rw[e];generalize (aa a&& !(n&&a==[]))=b at*;simp only[eC];refine eW Tryz.call424 Tryz.func424 ?_;exact z1 @hv
abbrev VO:PV:= .pt (.agg [.fn (.func 424)]) 0
theorem Dd (l:List (Bool×Bytes)) (hl:l.length<4611686018427387904):aA Tryz.prog 425 [G4 l,VO] (.b (!l.all c9)):=by
 have h1:=fz l _ _ hl Ll;rw[lV]at h1;unfold G4;refine eW Tryz.call425 Tryz.func425 ?_;exact z1 @h1
theorem Lm (a:Bytes):aA Tryz.prog 426 [.s a] (.b (!aa a)):=by
 have hv:=aJ a;generalize aa a=b at*;refine eW Tryz.call426 Tryz.func426 ?_;exact z1 @hv
theorem XM (f:FuncId) (c:List PV):aA Tryz.prog 306 [.sl [], .fc f [] c] (.b false):=by
 have hi:aA Tryz.prog 403 [.sl [], .fc f [] c] (E (-1)):=by
  refine eW Tryz.call403 Tryz.func403 ?_;exact U2
 refine eW Tryz.call306 Tryz.func306 ?_;exact z1 @hi
theorem Aq (l:List (Bool×Bytes)) (hl:l.length<1000000):aA Tryz.prog 187 [.sl (l.map eC)] (.b (l.all c9)):=by
 have l5:(l.map eC).length=l.length:=aE ..;refine eW Tryz.call187 Tryz.func187 ?_;repeat' first|simp only[go_sem,seval,l5]|refine sB ?_|apply xX<;>intro hc|refine⟨oD,?_⟩|exact oD|fail
 refine af (α:=Nat) (fun i=>l.length-i) (fun i=>⟨[(5, .v (.sl (l.map eC))),(6,E' l.length),(7,E' i)],[],_⟩) (fun i=>i<=l.length/\(l.drop i).all c9=l.all c9) 0 (fun _=>an _) ⟨aH _,rfl⟩ ?_ ?_
 ·exact lE
 ·rintro i ⟨hi,hf⟩ R hR;rw[<-hf]
  by_cases hlt:i<l.length
  ·have e1:=getD_map eC l lK hlt;have hgo:=hR (i+1);rw[<-hf]at hgo;rw[aT lK hlt,List.all_cons]at hgo⊢;obtain⟨x,hx⟩: ∃x,x=l.getD i lK:=⟨_,rfl⟩;rw[<-hx]at e1 hgo⊢;clear hx hf hR;obtain⟨n,a⟩:=x;have hv:=fP n a;have e:c9 (n,a)=(aa a&& !(n&&a==[])):=rfl;rw[e]at hgo⊢;clear e;simp only[eC]at e1;generalize (aa a&& !(n&&a==[]))=b at*;cases b
   ·repeat' first|simp only[go_sem,seval,l5,e1]|refine cP hv ?_|refine sB ?_|apply xX<;>intro hc|refine⟨oD,?_⟩|exact oD|fail
    all_goals simp
   ·have hgo:=hgo ⟨by omega,by simp⟩ oO
    repeat' first|simp only[go_sem,seval,l5,e1]|refine cP hv ?_|refine sB ?_|apply xX<;>intro hc|refine⟨oD,?_⟩|exact oD|fail
    refine hgo _ ?_;exact lE
  ·obtain rfl:i=l.length:=by omega
   rw[cX];repeat' first|simp only[go_sem,seval,l5]|refine sB ?_|apply xX<;>intro hc|refine⟨oD,?_⟩|exact oD|fail
   all_goals rfl


end Go.Proofs.YtfdjchnefpefbaaGreatDoor
namespace Go.Proofs.YtfdjchnefpefbaaGreatDoor
open Go Go.Dom Go.Num
set_option maxRecDepth 100000
set_option maxHeartbeats 16000000
theorem Xw (l:List Int):(l.map lO).map eC=l.map Zp:=by rw[iQ];rfl
theorem vw {w:List Int} (hw: ∀x∈w,x.natAbs<dw):(w.map lO).all c9=true:=by
 rw[bz];intro x hx;obtain⟨z,hz,rfl⟩:=bw.1 hx;exact tF (hw z hz)
theorem PG {s:dJ} (hs:CI s) {w:List (Bool×Bytes)} (hw:w.length<1000000):aA Tryz.prog 276 [s.pv, .sl (w.map eC)] (E (if !(w.all c9)then 3 else if w.length≠s.vars.length then 6 else 0)):=by
 have hf:=LQ hs.b;have hc:=GX hs.b;rw[hs.ck]at hc;rw[show oj s=true from by have:=hs.ck;unfold LM at this;cases h:oj s<;>simp_all]at hf
 have hcf:=fz w _ _ oO PF;rw[lV]at hcf;have l1:(w.map eC).length=w.length:=aE ..;obtain⟨gs,vs,es⟩:=s;have l2:(vs.map dO).length=vs.length:=aE ..;simp only[dJ.pv,if_true]at hf hc⊢;generalize w.all c9=b at*;cases b
 ·refine eW Tryz.call276 Tryz.func276 ?_;exact JJ (aN @l1 @l2) @hf @hc @hcf
 ·by_cases hl:w.length=vs.length
  ·have hI:((w.length:Int) !=vs.length)=false:=by rw[hl];simp
   rw[if_neg (by simp),if_neg (by simpa using hl)]
   refine eW Tryz.call276 Tryz.func276 ?_;exact JJ (aN @l1 (aN @l2 @hI)) @hf @hc @hcf
  ·have hI:((w.length:Int) !=vs.length)=true:=by rw[bne_iff_ne];omega
   rw[if_neg (by simp),if_pos (by simpa using hl)]
   refine eW Tryz.call276 Tryz.func276 ?_;exact JJ (aN @l1 (aN @l2 @hI)) @hf @hc @hcf
theorem G5 {s:dJ} (hs:CI s) {w:List Int} (hwl:w.length=s.vars.length) (hw: ∀x∈w,x.natAbs<dw):aA Tryz.prog 276 [s.pv, .sl (w.map Zp)] (E 0):=by
 have nv:=hs.nv;have:=PG hs (w:=w.map lO) (by rw[aE];omega)
 rwa[Xw,vw hw,aE,if_neg (by simp),if_neg (by simpa using hwl)]at this
def WS (s:dJ) (w:List Int):Prop:= ∀q∈s.eqs,WB q.terms w
theorem N7 {s:dJ} (hs:CI s) {w:List Int} (hwl:w.length=s.vars.length) (hw: ∀x∈w,x.natAbs<dw) (hW:WS s w):aA Tryz.prog 176 [s.pv, .sl (w.map Zp)] (.tup [.sl ((xy s w).map .s),E 0]):=by
 have hr:=G5 hs hwl hw;have hi:=GU hs hW;generalize xy s w=L at*;obtain⟨gs,vs,es⟩:=s;simp only[dJ.pv]at hr hi⊢;refine eW Tryz.call176 Tryz.func176 ?_;exact z2 @hr @hi
def fb (o b:Bytes):Nat:=if b=[]then num o else num b
def js (b:Bytes) (x:Int) (L:Nat):Bool:=decide (x.natAbs<L)&& !(decide (b=[])&&decide (x<0))
def Be (o:Bytes) (us:List Bytes) (w:List Int):Bool:=(List.range us.length).all fun i=>js (us.getD i []) (w.getD i 0) (fb o (us.getD i []))
theorem fq {gs:List (Bytes×Bytes)} (h: ∀p∈gs,gE p.1 p.2=0/\p.1.length<=8/\p.2.length<=8):aa (bT gs)=true/\(bT gs).length<=8:=by
 induction gs with
 |nil=>exact⟨rfl,by simp[bT]⟩
 |cons g r ih=>
  rw[bT];obtain⟨g1,g2,g3⟩:=h g (sk ..);split
  ·exact ih fun p hp=>h p (jm _ hp)
  ·exact⟨(kp g1).2.1,g3⟩
theorem IK {s:dJ} (hs:CI s) {w:List Int} (hwl:w.length=s.vars.length) (hw: ∀x∈w,x.natAbs<dw):aA Tryz.prog 277 [s.pv, .sl (w.map Zp)] (.b (Be (bT s.groups) s.vars w)):=by
 have hv:=hs.v;have nv:=hs.nv;have hor:=zS s (by have:=hs.ng;omega)
 have hoV:=fq hs.g;obtain⟨gs,vs,es⟩:=s;simp only at hv hwl nv hor hoV⊢;have l2:(vs.map dO).length=vs.length:=aE ..;have l5:(w.map Zp).length=vs.length:=by rw[aE];exact hwl
 generalize bT gs=oq at*;unfold dJ.pv at*;simp only at*;refine eW Tryz.call277 Tryz.func277 ?_;refine eF @l2 ?_;refine af (α:=Nat) (fun i=>vs.length-i) (fun i=>⟨[(1, .v (.sl (w.map Zp))),(2, .p 1000 0 0),(9, .v (.sl (vs.map dO))),(10,E' vs.length),(11,E' i)],[(1000,⟨0,[.v (.sl (gs.map gO)), .v (.sl (vs.map dO)), .v (.sl (es.map eH.pv))],false,none⟩)],_⟩) (fun i=>i<=vs.length/\ ∀j,j<i->js (vs.getD j []) (w.getD j 0) (fb oq (vs.getD j []))=true) 0 (fun _=>an _) ⟨aH _,fun j hj=>by omega⟩ ?_ ?_
 ·exact lE
 ·rintro i ⟨hi,hall⟩ R hR
  by_cases hlt:i<vs.length
  ·have e1:=getD_map dO vs [] hlt;have e2:=getD_map Zp w 0 (i:=i) oO;have kb:=hv _ (az [] hlt);have kw:=hw _ (az 0 (show i<w.length by omega))
   have hgo:=fun h=>hR (i+1) ⟨by omega,h⟩ oO
   have hbad:=fun h: ¬js (vs.getD i []) (w.getD i 0) (fb oq (vs.getD i []))=true=>pd (p:=fun i=>js (vs.getD i []) (w.getD i 0) (fb oq (vs.getD i []))) hlt (eZ.2 h)
   have hnx:js (vs.getD i []) (w.getD i 0) (fb oq (vs.getD i []))=true-> ∀j,j<i+1->js (vs.getD j []) (w.getD j 0) (fb oq (vs.getD j []))=true:=fun h j hj=>by
    by_cases hji:j<i
    ·exact hall j hji
    ·obtain rfl:j=i:=by omega
     exact h
   rw[<-Be]at hbad;clear hR hall;generalize vs.getD i []=b at*;generalize w.getD i 0=x at*;have hz:=(tF kw);simp only[lO,c9,aY]at hz;have hc:=ri hz.1 kb.1;have hc':=ri hz.1 hoV.1;simp only[Bq]at hc hc';have hd: ∀L:Nat,decide (aU x.natAbs L>=0)= !decide (x.natAbs<L):=fun L=>Po _ _
   simp only[dO]at e1;simp only[Zp,eC,lO]at e2;simp only[js,fb]at hbad hnx
   by_cases hb:b=[]
   ·subst hb;simp only[if_true,decide_true,cf]at hbad hnx;have hzs:zs x=decide (x<0):=rfl;have h1:=hd (num oq);clear hd hc kb;generalize aU x.natAbs (num oq)=cm at*;generalize decide (x.natAbs<num oq)=p at*;generalize hq:decide (x<0)=q at*;cases q
    ·cases p
     ·rw[hbad (by simp)]
      repeat' first|simp only[go_sem,seval,l2,l5,e1,e2,hzs,h1,nn]|refine cP hor ?_|refine cP hc' ?_|refine sB ?_|apply xX<;>intro hc|refine⟨oD,?_⟩|exact oD|fail
     ·have hgo:=hgo (hnx (by simp))
      repeat' first|simp only[go_sem,seval,l2,l5,e1,e2,hzs,h1,nn]|refine cP hor ?_|refine cP hc' ?_|refine sB ?_|apply xX<;>intro hc|refine⟨oD,?_⟩|exact oD|fail
      refine hgo _ ?_;exact lE
    ·rw[hbad (by simp)]
     repeat' first|simp only[go_sem,seval,l2,l5,e1,e2,hzs,h1,nn]|refine cP hor ?_|refine cP hc' ?_|refine sB ?_|apply xX<;>intro hc|refine⟨oD,?_⟩|exact oD|fail
   ·have hbb:(b==[])=false:=by simpa using hb
    simp only[if_neg hb,decide_eq_false hb,dH,bZ,pN]at hbad hnx;have h1:=hd (num b);clear hd hc' kb;generalize aU x.natAbs (num b)=cm at*;generalize decide (x.natAbs<num b)=p at*;cases p
    ·rw[hbad (by simp)]
     exact o7 (aN @l2 (aN @l5 (aN @e1 (aN @e2 (aN @hbb @h1))))) @hc
    ·have hgo:=hgo (hnx rfl);exact kR (aN @l2 (aN @l5 (aN @e1 (aN @e2 (aN @hbb @h1))))) @hgo @hc
  ·obtain rfl:i=vs.length:=by omega
   have hg:Be oq vs w=true:=oz fun j hj=>hall j hj
   rw[hg];exact z0
noncomputable def IB (s:dJ) (w:List Int):Bool:=decide (xy s w=s.eqs.map (·.tgt))
theorem IJ {s:dJ} (hs:CI s) {w:List Int} (hwl:w.length=s.vars.length) (hw: ∀x∈w,x.natAbs<dw) (hW:Be (bT s.groups) s.vars w=true->WS s w):aA Tryz.prog 172 [s.pv, .sl (w.map Zp)] (.tup [.b (Be (bT s.groups) s.vars w&&IB s w),E 0]):=by
 have ne:=hs.ne;have hr:=G5 hs hwl hw;have hi:=IK hs hwl hw;have hm:=fun h=>GU hs (hW h)
 have hL:=Bc s w;unfold IB;generalize xy s w=L at*;obtain⟨gs,vs,es⟩:=s;simp only[dJ.pv]at hr hi hm hL⊢;have l3:(es.map eH.pv).length=es.length:=aE ..;have l4:(L.map PV.s).length=es.length:=by rw[aE];exact hL
 simp only at ne;clear hs hW hw hwl;generalize Be (bT gs) vs w=b at*;cases b
 ·refine eW Tryz.call172 Tryz.func172 ?_;exact z2 @hr @hi
 have hm:=hm rfl;refine eW Tryz.call172 Tryz.func172 ?_;refine QW @l3 @hr @hi @hm ?_;refine af (α:=Nat) (fun i=>es.length-i) (fun i=>⟨[(2, .p 1000 0 0),(7, .v (.sl (L.map .s))),(31, .v (.sl (es.map eH.pv))),(32,E' es.length),(33,E' i)],[(1000,⟨0,[.v (.sl (gs.map gO)), .v (.sl (vs.map dO)), .v (.sl (es.map eH.pv))],false,none⟩)],_⟩) (fun i=>i<=es.length/\ ∀j,j<i->L.getD j []=(es.getD j kF).tgt) 0 (fun _=>an _) ⟨aH _,fun j hj=>by omega⟩ ?_ ?_
 ·exact lE
 ·rintro i ⟨hi,hall⟩ R hR
  by_cases hlt:i<es.length
  ·have e1:=getD_map eH.pv es kF hlt;have e2:=getD_map PV.s L [] (i:=i) oO;have hgo:=fun h=>hR (i+1) ⟨by omega,h⟩ oO
   have hnx:L.getD i []=(es.getD i kF).tgt-> ∀j,j<i+1->L.getD j []=(es.getD j kF).tgt:=fun h j hj=>by
    by_cases hji:j<i
    ·exact hall j hji
    ·obtain rfl:j=i:=by omega
     exact h
   have hbad: ¬L.getD i []=(es.getD i kF).tgt->decide (L=es.map (·.tgt))=false:=fun h=>decide_eq_false fun g=>h (by rw[g];simp[aR,hlt])
   clear hR hall;generalize es.getD i kF=q at*;generalize L.getD i []=x at*;obtain⟨g,t,ts⟩:=q;simp only[eH.pv]at e1 hbad hnx
   by_cases hxt:x=t
   ·have hgo:=hgo (hnx hxt);have e3:(x==t)=true:=by simpa using hxt
    exact u4 (aN @l3 (aN @l4 (aN @e1 (aN @e2 @e3)))) @hgo
   ·have e3:(x==t)=false:=by simpa using hxt
    rw[hbad hxt];exact lQ (aN @l3 (aN @l4 (aN @e1 (aN @e2 @e3))))
  ·obtain rfl:i=es.length:=by omega
   rw[decide_eq_true (Pb hL hall)];exact z0
def lM (o c sl b:Bytes):Nat:=if b=[]then num o else xI c sl b
def lR (o c sl b:Bytes):Nat:=if b=[]then num o else Tu c sl b
def lP (o c sl b:Bytes):PV:= .agg [N (lM o c sl b),N (lR o c sl b)]
structure Gg (c sl:Bytes) (s:dJ):Prop where
 r:qU c sl
 g:CI s
 m: ∀b∈s.vars,b=[]->num c<=num (bT s.groups)
theorem nO (b:Bytes):aA Tryz.prog 281 [dO b] (E (if b=[]then 0 else 1)):=by
 by_cases h:b=[]
 ·subst h;unfold dO;refine eW Tryz.call281 Tryz.func281 ?_;repeat' first|simp only[go_sem,seval,nn]|refine sB ?_|apply xX<;>intro hc|refine⟨oD,?_⟩|exact oD|fail
 ·rw[if_neg h];exact Nn h
theorem Eb (c sl q b:Bytes):aA Tryz.prog 282 [.agg [.s c, .s sl, .s q], .s b] (.tup [.agg [.s q, .s q],E 0]):=by
 refine eW Tryz.call282 Tryz.func282 ?_;exact z0
theorem YJ (o c sl:Bytes):dV (lP o c sl) 2:=⟨fun _=>rfl,fun x y hy=>by simp[lP,PV.cells]at hy;rcases hy with rfl|rfl<;>rfl,fun h=>by omega,fun _ x=>rfl⟩
theorem yt {c sl:Bytes} {s:dJ} (h:Gg c sl s):aA Tryz.prog 174 [.agg [.s c, .s sl],s.pv] (.tup [.sl (s.vars.map (lP (bT s.groups) c sl)),E 0]):=by
 obtain⟨hr,hs,hm⟩:=h;have hck:=GX hs.b;rw[hs.ck]at hck;have hor:=Ap s (by have:=hs.ng;omega)
 have hoV:=fq hs.g;have v1:=aJ c;have v2:=aJ sl;rw[hr.vc]at v1;rw[hr.vs]at v2;have c1:=KI hr.vc;have c2:=KI hr.vs;have d1: ∀ _:True,decide (aU (num c) 2<0)=false:=fun _=>decide_eq_false (fun g=>by have:=fX.1 g;have:=hr.c2;omega)
 have d2: ∀ _:True,decide (aU (num sl) 2<0)=false:=fun _=>decide_eq_false (fun g=>by have:=fX.1 g;have:=hr.s2;omega)
 have c3:=ri hr.vc hoV.1;generalize aU (num c) 2=cm1 at*;generalize aU (num sl) 2=cm2 at*;have hv:=hs.v;have nv:=hs.nv;obtain⟨gs,vs,es⟩:=s;simp only at hv hm nv hor hoV c3⊢;generalize bT gs=q at*;have d3: ∀b∈vs,b=[]->decide (aU (num c) (num q)>0)=false:=fun b hb h=>decide_eq_false fun g=>by
  have:=hm b hb h;unfold aU at g
  split at g
  ·omega
  ·split at g<;>omega
 generalize aU (num c) (num q)=cm3 at*;have eq:=eV hoV.1;have l2:(vs.map dO).length=vs.length:=aE ..;clear hm hoV;unfold dJ.pv at*;simp only at*;refine eW Tryz.call174 Tryz.func174 ?_;refine UZ (aN (d1 trivial) (aN (d2 trivial) @l2)) @v1 @v2 @hck @Vv @c1 @c2 @hor ?_;refine af (α:=Nat) (fun i=>vs.length-i) (fun i=>⟨[(2, .p 1000 0 0),(3, .p 1001 0 0),(8, .p 1037 0 0),(50, .v (.sl (vs.map dO))),(51,E' vs.length),(52,E' i)],[(1000,⟨0,[.v (.s c), .v (.s sl)],false,none⟩),(1001,⟨0,[.v (.sl (gs.map gO)), .v (.sl (vs.map dO)), .v (.sl (es.map eH.pv))],false,none⟩),(1037,⟨0,[.v (.s c), .v (.s sl), .v (.s q)],false,some 332⟩)],_⟩) (fun i=>i<=vs.length) 0 (fun _=>an _) (aH _) ?_ ?_
 ·exact lE
 ·intro i hi R hR
  by_cases hlt:i<vs.length
  ·have e1:=getD_map dO vs [] hlt;have hk:=nO (vs.getD i []);have d3:=d3 _ (az [] hlt);have hgo:=hR (i+1) oO oO;clear hR;generalize vs.getD i []=b at*;simp only[dO]at e1 hk
   by_cases hb:b=[]
   ·rw[if_pos hb]at hk;have d3:=d3 hb;exact yQ (aN @l2 (aN @e1 @d3)) @hgo @hk @c3
   ·rw[if_neg hb]at hk;exact kR (aN @l2 @e1) @hgo @hk
  ·obtain rfl:i=vs.length:=by omega
   have hL:=YJ q c sl;have row0: ∀{i:Nat},i<vs.length->bO (lP q c sl) (vs.take (i+1))=bO (lP q c sl) (vs.take i)++[.v (N (lM q c sl (vs.getD i []))), .v (N (lR q c sl (vs.getD i [])))]:=fun h=>by
    rw[bu [] h,dh];rfl
   clear hR d3 c1 c2 c3 d1 d2 hlt
   by_cases hpos:0<vs.length
   ·refine eF @l2 ?_;refine ah ?_;have e1:=getD_map dO vs [] hpos;have hk:=nO (vs.getD 0 []);have r1:=row0 hpos;have hcs:(vs.getD 0 []=[]/\aA Tryz.prog 282 [.agg [.s c, .s sl, .s q], .s (vs.getD 0 [])] (.tup [.agg [N (lM q c sl (vs.getD 0 [])),N (lR q c sl (vs.getD 0 []))],E 0]))\/(vs.getD 0 []≠[]/\aA Tryz.prog 283 [.agg [.s c, .s sl, .s q], .s (vs.getD 0 [])] (.tup [.agg [N (lM q c sl (vs.getD 0 [])),N (lR q c sl (vs.getD 0 []))],E 0])):=by
     by_cases h:vs.getD 0 []=[]
     ·refine .inl ⟨h,?_⟩;rw[h,lM,lR,if_pos rfl,if_pos rfl,eq];exact Eb c sl q []
     ·obtain⟨k1,k3⟩:=hv _ (az [] hpos);refine .inr ⟨h,?_⟩;rw[lM,lR,if_neg h,if_neg h];exact rZ (q:=q) hr k1 h k3
    generalize lM q c sl (vs.getD 0 [])=A at*;generalize lR q c sl (vs.getD 0 [])=B at*;generalize vs.getD 0 []=b at*;simp only[dO]at e1 hk;rcases hcs with⟨hb,hi1⟩|⟨hb,hi1⟩
    all_goals
     first|rw[if_pos hb]at hk|rw[if_neg hb]at hk
     refine Xp (aN @l2 @e1) @hk @hi1 ?_;refine af (α:=Nat) (fun j=>vs.length-(j+1)) (fun j=>⟨[(11, .p 1049 0 0),(12, .rs 1079 j 0 (j+1) 2),(74, .v (.sl (vs.map dO))),(75,E' vs.length),(76,E' (j+1))],[(1049,⟨0,[.fn (.func 282) [.v (.agg [.s c, .s sl, .s q])] [], .fn (.func 283) [.v (.agg [.s c, .s sl, .s q])] []],false,some 335⟩),(1079,⟨j,bO (lP q c sl) (vs.take (j+1)),true,some 266⟩)],1083⟩) (fun j=>j+1<=vs.length) 0 (fun _=>cC rfl) hpos ?_ ?_
     ·rw[dI,r1,List.take_zero,show bO (lP q c sl) []=[]from rfl]
      exact lE
     ·clear e1 hk hi1 r1 hb;intro j hj R hR;have hj1:(vs.take (j+1)).length=j+1:=by rw[bU];omega
      have q1:=de hL (vs.take (j+1));have q2:=dK hL (vs.take (j+1));rw[hj1]at q1 q2
      by_cases hlt:j+1<vs.length
      ·have hgo:=hR (j+1) oO oO;clear hR;have e1:=getD_map dO vs [] hlt;have hk:=nO (vs.getD (j+1) []);have r1:=row0 hlt;have hcs:(vs.getD (j+1) []=[]/\aA Tryz.prog 282 [.agg [.s c, .s sl, .s q], .s (vs.getD (j+1) [])] (.tup [.agg [N (lM q c sl (vs.getD (j+1) [])),N (lR q c sl (vs.getD (j+1) []))],E 0]))\/(vs.getD (j+1) []≠[]/\aA Tryz.prog 283 [.agg [.s c, .s sl, .s q], .s (vs.getD (j+1) [])] (.tup [.agg [N (lM q c sl (vs.getD (j+1) [])),N (lR q c sl (vs.getD (j+1) []))],E 0])):=by
        by_cases h:vs.getD (j+1) []=[]
        ·refine .inl ⟨h,?_⟩;rw[h,lM,lR,if_pos rfl,if_pos rfl,eq];exact Eb c sl q []
        ·obtain⟨k1,k3⟩:=hv _ (az [] hlt);refine .inr ⟨h,?_⟩;rw[lM,lR,if_neg h,if_neg h];exact rZ (q:=q) hr k1 h k3
       generalize lM q c sl (vs.getD (j+1) [])=A at*;generalize lR q c sl (vs.getD (j+1) [])=B at*;generalize vs.getD (j+1) []=b at*;simp only[dO]at e1 hk;rcases hcs with⟨hb,hi1⟩|⟨hb,hi1⟩
       all_goals
        first|rw[if_pos hb]at hk|rw[if_neg hb]at hk
        rw[r1]at hgo;refine sT (aN @l2 (aN @e1 (aN @q1 @q2))) @hk @hi1 ?_;refine hgo _ ?_
        (refine AS.Le.of (by first|decide|omega) ?_ ?_<;>simp[dM,dL,aK,aj,AV.bd,AV.bd.bdL,u8,ai,ak,ar])
        all_goals (intro c hc;rcases hc with h|h|h<;>first|exact eu h|(subst h;rfl))
      ·obtain hjv:j+1=vs.length:=by omega
       rw[hjv,cK]at q1 q2;rw[hjv,cK];have q3:=fk hL vs;have q4:=dA hL vs;repeat' first|simp only[go_sem,seval,l2,q1,q2,q3,q4,e9]|refine sB ?_|apply xX<;>intro hc|refine⟨oD,?_⟩|exact oD|fail
       all_goals skip
   ·obtain rfl:vs=[]:=gJ.1 oO;exact Zh @l2
theorem DZ {c sl:Bytes} {s:dJ} (h:Gg c sl s):aA Tryz.prog 161 [.agg [.s c, .s sl],s.pv] (.tup [.sl (s.vars.map fun b=>N (lM (bT s.groups) c sl b)), .sl (s.vars.map fun b=>N (lR (bT s.groups) c sl b)),E 0]):=by
 have hb:=yt h;have nv:=h.g.nv;obtain⟨gs,vs,es⟩:=s;simp only at hb nv⊢;clear h;generalize bT gs=o at*;have l2:(vs.map (lP o c sl)).length=vs.length:=aE ..;unfold dJ.pv at*;simp only at*
 by_cases hpos:0<vs.length
 rotate_left
 ·obtain rfl:vs=[]:=gJ.1 oO;refine eW Tryz.call161 Tryz.func161 ?_;exact Xt @hb
 have hM:dV (fun b=>N (lM o c sl b)) 1:=⟨fun _=>rfl,fun _ y hy=>by cases dr.1 hy;rfl,fun _ _=>rfl,fun h=>absurd rfl h⟩
 have hR0:dV (fun b=>N (lR o c sl b)) 1:=⟨fun _=>rfl,fun _ y hy=>by cases dr.1 hy;rfl,fun _ _=>rfl,fun h=>absurd rfl h⟩
 have row1: ∀{i:Nat},i<vs.length->bO (fun b=>N (lM o c sl b)) (vs.take (i+1))=bO (fun b=>N (lM o c sl b)) (vs.take i)++[.v (N (lM o c sl (vs.getD i [])))]:=fun h=>by
  rw[bu [] h,dh];rfl
 have UH: ∀{i:Nat},i<vs.length->bO (fun b=>N (lR o c sl b)) (vs.take (i+1))=bO (fun b=>N (lR o c sl b)) (vs.take i)++[.v (N (lR o c sl (vs.getD i [])))]:=fun h=>by
  rw[bu [] h,dh];rfl
 refine eW Tryz.call161 Tryz.func161 ?_;refine zr @l2 @hb ?_;refine ah ?_;have e1:=getD_map (lP o c sl) vs [] hpos;have r1:=row1 hpos;have r2:=UH hpos;simp only[lP]at e1;refine eF (aN @l2 @e1) ?_;refine af (α:=Nat) (fun j=>vs.length-(j+1)) (fun j=>⟨[(9, .rs 1029 j 0 (j+1) 1),(10, .rs 1034 j 0 (j+1) 1),(22, .v (.sl (vs.map (lP o c sl)))),(23,E' vs.length),(24,E' (j+1))],[(1029,⟨j,bO (fun b=>N (lM o c sl b)) (vs.take (j+1)),true,some 22⟩),(1034,⟨j,bO (fun b=>N (lR o c sl b)) (vs.take (j+1)),true,some 22⟩)],1039⟩) (fun j=>j+1<=vs.length) 0 (fun _=>cC rfl) hpos ?_ ?_
 ·rw[dI,r1,r2,List.take_zero,show bO (fun b=>N (lM o c sl b)) []=[]from rfl,show bO (fun b=>N (lR o c sl b)) []=[]from rfl]
  exact lE
 ·intro j hj R hR;have hj1:(vs.take (j+1)).length=j+1:=by rw[bU];omega
  have q1:=de hM (vs.take (j+1));have q2:=dK hM (vs.take (j+1));have q5:=de hR0 (vs.take (j+1));have q6:=dK hR0 (vs.take (j+1));rw[hj1,dG]at q1 q2 q5 q6
  by_cases hlt:j+1<vs.length
  ·have e1:=getD_map (lP o c sl) vs [] hlt;have r1:=row1 hlt;have r2:=UH hlt;simp only[lP]at e1;have hgo:=hR (j+1) oO oO;rw[r1,r2]at hgo;clear hR;refine fx (aN @l2 (aN @e1 (aN @q1 (aN @q2 (aN @q5 @q6))))) ?_;refine hgo _ ?_
   (refine AS.Le.of (by first|decide|omega) ?_ ?_<;>simp[dM,dL,aK,aj,AV.bd,AV.bd.bdL,u8,ai,ak,ar])
   all_goals (refine⟨?_,?_⟩<;>(intro c hc;rcases hc with h|h<;>first|exact eu h|(subst h;rfl)))
  ·obtain hjv:j+1=vs.length:=by omega
   rw[hjv,cK]at q1 q2 q5 q6;rw[hjv,cK];have q3:=fk hM vs;have q4:chunk 1 vs.length (List.flatMap (fun x=>[PV.s (aO (lM o c sl x))]) vs)=vs.map fun b=>N (lM o c sl b):=dA hM vs
   have q7:=fk hR0 vs;have q8:chunk 1 vs.length (List.flatMap (fun x=>[PV.s (aO (lR o c sl x))]) vs)=vs.map fun b=>N (lR o c sl b):=dA hR0 vs
   repeat' first|simp only[go_sem,seval,l2,q1,q2,q3,q4,q5,q6,q7,q8,e9]|refine sB ?_|apply xX<;>intro hc|refine⟨oD,?_⟩|exact oD|fail
   all_goals skip

end Go.Proofs.YtfdjchnefpefbaaGreatDoor
