/- Part of the proof. -/
import Derived.Test.YtkmahpcpmgedkaaGreatDoorFB28
set_option linter.all false
set_option maxHeartbeats 16000000
set_option maxRecDepth 100000
namespace Go.Proofs.Tryz
open Go Go.Dom Go.Num
theorem Cp (x:Bool×Bytes):aD 448 [dI x] (.b (!cJ x)):=by
 obtain⟨n,a⟩:=x;have hv:=hO n a;have e:cJ (n,a)=(aa a&& !(n&&a==[])):=rfl;rw[e];generalize (aa a&& !(n&&a==[]))=b at*;simp only[dI];refine eW call448 func448 ?_;exact z1 @hv
theorem OY (l:List (Bool×Bytes)) (hl:l.length<1000000):aD 390 [.sl (l.map dI)] (.b (l.all cJ)):=by
 have h1:=gD l _ _ oO Cp;have e:(l.all cJ)= !(l.any fun x=> !cJ x):=by
  induction l with
  |nil=>rfl
  |cons x l ih=>
   have:=ih (by simp at hl;omega)
   rw[List.all_cons,List.any_cons,this]
   ·cases cJ x<;>simp
   ·exact gD l _ _ (by simp at hl;omega) Cp
 rw[e];generalize (l.any fun x=> !cJ x)=b at*
 refine eW call390 func390 ?_;exact z1 @h1
noncomputable def xh (M:Nat) (l:List (Bool×Bytes)) (x:Nat) (t:eF):Nat:=
 x*dh M (dh M (num t.base) t.neg (num t.abs)) (l.getD t.var.toNat kJ).1 (num (l.getD t.var.toNat kJ).2)%M
noncomputable def oe (gs:List (Bytes×Bytes)) (c:Bytes) (l:List (Bool×Bytes)) (q:da):Nat:=
 q.terms.foldl (xh (num (gs.getD q.mT.toNat fC).1) l) (dh (num (gs.getD q.mT.toNat fC).1) (num q.tgt) (!(c==[])) (num c))
theorem Gn {c:Bytes} (vc:aa c=true):aD 422 [.agg [.b false, .s c]] (.agg [.b (!(c==[])), .s c]):=by
 have hv:=hO false c;rw[vc]at hv;have hm:=xK true c;rw[cj]at hm;refine eW call422 func422 ?_;exact z2 @hv @hm
theorem Dy {s:cG} (hs:WC s) (h0:s.eqs≠[]) {c:Bytes} (vc:aa c=true) {l:List (Bool×Bytes)} (hlen:l.length=s.vars.length) (hl: ∀x∈l,cJ x=true):aD 392 [s.pv, .s c, .sl (l.map dI)] (.sl (s.eqs.map fun q=>N (oe s.groups c l q))):=by
 obtain⟨gs,vs,es⟩:=s;obtain⟨hg,hq,ng,nv,ne⟩:=hs;simp only at hg hq ng nv ne h0 hlen;have hpos:0<es.length:=kq.2 h0;have l1:(gs.map eu).length=gs.length:=aB ..;have l3:(es.map da.pv).length=es.length:=aB ..;have l5:(l.map dI).length=l.length:=aB ..;have fr:=oU vc;have ng':=Gn vc;have hM:dY (fun q=>N (oe gs c l q)) 1:=⟨fun _=>rfl,fun _ y hy=>by cases dt.1 hy;rfl,fun _ _=>rfl,fun h=>aW rfl h⟩
 have row1: ∀{i:Nat},i<es.length->bj (fun q=>N (oe gs c l q)) (es.take (i+1))=bj (fun q=>N (oe gs c l q)) (es.take i)++[.v (N (oe gs c l (es.getD i gF)))]:=fun h=>by
  rw[aQ gF h,cf];rfl
 have rn1:bj (fun q=>N (oe gs c l q)) []=[]:=rfl
 unfold cG.pv;simp only;refine eW call392 func392 ?_;refine cU @l3 ?_;refine ai ?_;have e1:=getD_map da.pv es gF hpos;obtain⟨q1,q2,q3,q4,q5⟩:=hq _ (aq gF hpos);have r1:=row1 hpos;obtain⟨x,hx⟩: ∃x,x=es.getD 0 gF:=⟨_,rfl⟩;rw[<-hx]at e1 q1 q2 q3 q4 q5 r1;clear hx;obtain⟨gr,tg,ts⟩:=x;simp only at q1 q2 q3 q4 q5;have hgl:gr.toNat<gs.length:=oO;have kg:=hg _ (aq fC hgl);have e3:=getD_map eu gs fC hgl;have hmQ:oe gs c l ⟨gr,tg,ts⟩=ts.foldl (xh (num (gs.getD gr.toNat fC).1) l) (dh (num (gs.getD gr.toNat fC).1) (num tg) (!(c==[])) (num c)):=rfl;obtain⟨z,hz⟩: ∃z,z=gs.getD gr.toNat fC:=⟨_,rfl⟩;rw[<-hz]at q3 q5 kg e3 hmQ;clear hz;obtain⟨m,o⟩:=z;simp only at q3 q5 kg hmQ;obtain⟨vt,gt⟩:=(cH kg.1).1 q3;have m1:=(jm kg.1).2.2.1;have hzc:(!(c==[])&&c==[])=false:=by cases(c==([]:Bytes))<;>rfl
 have xe:=jT kg.2.1 kg.2.2 kg.1 gt vc hzc;rw[eE vt]at xe;have gx0:=gt.dh m1 (!(c==[])) (num c);obtain⟨x0,hx0⟩: ∃x0,x0=dh (num m) (num tg) (!(c==[])) (num c):=⟨_,rfl⟩;rw[<-hx0]at xe gx0 hmQ;rw[hmQ]at r1;clear hx0 hmQ gt vt;have l4:(ts.map eF.pv).length=ts.length:=aB ..;simp only[eu]at e3;simp only[da.pv]at e1;refine uV (aN @l1 (aN @l3 (aN @e1 (aN @e3 @l4)))) @fr @ng' @xe oT ?_;refine af (α:=Nat×Nat) (fun s=>ts.length-s.1) (fun s=>⟨[(1, .v (.s c)),(2, .v (.sl (l.map dI))),(3, .p 1000 0 0),(7, .sn),(18, .v (.sl (es.map da.pv))),(19,E' es.length),(20,E' 0),(10, .p 1018 0 0),(11, .v (N s.2)),(41, .v (.sl (ts.map eF.pv))),(42,E' ts.length),(43,E' s.1)],[(1000,⟨0,[.v (.sl (gs.map eu)), .v (.sl (vs.map cl)), .v (.sl (es.map da.pv))],false,none⟩),(1018,⟨0,[.v (.s m), .v (.s o)],false,some 24⟩)],1036⟩) (fun s=>s.1<=ts.length/\GP m o s.2/\(ts.drop s.1).foldl (xh (num m) l) s.2=ts.foldl (xh (num m) l) x0) (0,x0) (fun _=>bZ rfl) ⟨aJ _,gx0,rfl⟩ ?_ ?_
 ·(refine AS.Le.of (by first|decide|omega) ?_ ?_<;>simp[dy,dx,aO,az,AV.bd,AV.bd.bdL,u8,ar,ax,aA])
  skip
 ·rintro⟨j,x⟩ ⟨hj,gx,hf⟩ R' hR';simp only at hj gx hf
  by_cases hjt:j<ts.length
  ·have e2:=getD_map eF.pv ts eR hjt;obtain⟨t1,t2,t3,t4⟩:=q5 _ (aq eR hjt);rw[aT eR hjt]at hf;obtain⟨y,hy⟩: ∃y,y=ts.getD j eR:=⟨_,rfl⟩;rw[<-hy]at e2 t1 t2 t3 t4 hf;obtain⟨b,v,n,a⟩:=y;simp only at t1 t2 t3 t4;rw[List.foldl_cons]at hf;obtain⟨kb1,kb2⟩:=(cH kg.1).1 t3;have hvl:v.toNat<l.length:=oO;have e4:=getD_map dI l kJ hvl;have kr:=hl _ (aq kJ hvl);have hmT:xh (num m) l x ⟨b,v,n,a⟩=x*dh (num m) (dh (num m) (num b) n (num a)) (l.getD v.toNat kJ).1 (num (l.getD v.toNat kJ).2)%num m:=rfl;obtain⟨w,hw⟩: ∃w,w=l.getD v.toNat kJ:=⟨_,rfl⟩;rw[<-hw]at e4 kr hmT;obtain⟨rn,ra⟩:=w;simp only[cJ,aZ,fJ]at t4 kr;have m1:=(jm kg.1).2.2.1;have x1:=jT kg.2.1 kg.2.2 kg.1 kb2 t4.1 t4.2;rw[eE kb1]at x1;have gy:=kb2.dh m1 n (num a);have x2:=jT kg.2.1 kg.2.2 kg.1 gy kr.1 kr.2;have gz:=gy.dh m1 rn (num ra);have x3:=IE kg.2.1 kg.2.2 kg.1 gx gz;have hgo':=hR' (j+1,xh (num m) l x ⟨b,v,n,a⟩) ⟨by show j+1<= _;omega,by rw[hmT];exact gx.mul gz,hf⟩ (by show ts.length-(j+1)<ts.length-j;omega)
   rw[hmT]at hgo';clear hR' hy t3 t4 q5 hf hw kb1 kb2 gx gy gz hmT kr;simp only[eF.pv]at e2;simp only[dI]at e4;have hd3: ∀ _:True,v<(l.length:Int):=fun _=>oO
   generalize dh (num m) (dh (num m) (num b) n (num a)) rn (num ra)=z at*;generalize dh (num m) (num b) n (num a)=y at*;refine wI (aN @l3 (aN @l4 (aN @l5 (aN @e2 @e4)))) @x1 @x2 @x3 oT ?_;refine hgo' _ ?_
   (refine AS.Le.of (by first|decide|omega) ?_ ?_<;>simp[dy,dx,aO,az,AV.bd,AV.bd.bdL,u8,ar,ax,aA])
   skip
  ·obtain rfl:j=ts.length:=oO;rw[cO]at hf;simp only[List.foldl_nil]at hf;subst hf;refine cU (aN @l3 @l4) ?_;refine af (α:=Nat) (fun j=>es.length-(j+1)) (fun j=>⟨[(1, .v (.s c)),(2, .v (.sl (l.map dI))),(3, .p 1000 0 0),(7, .rs 1040 j 0 (j+1) 1),(18, .v (.sl (es.map da.pv))),(19,E' es.length),(20,E' (j+1))],[(1000,⟨0,[.v (.sl (gs.map eu)), .v (.sl (vs.map cl)), .v (.sl (es.map da.pv))],false,none⟩),(1040,⟨j,bj (fun q=>N (oe gs c l q)) (es.take (j+1)),true,some 22⟩)],1044⟩) (fun j=>j+1<=es.length) 0 (fun _=>bZ rfl) hpos ?_ ?_
   ·rw[dq,r1,List.take_zero,rn1];exact lE
   ·clear e1 e3 q1 q2 q3 q4 q5 kg gx0 xe r1 l4;intro i hi R hR;have hj1:(es.take (i+1)).length=i+1:=by rw[bV];omega
    have p1:=cz hM (es.take (i+1));have p2:=cM hM (es.take (i+1));rw[hj1,dN]at p1 p2;have hw1: ∀ _:True,((i:Int)+1)=((i+1:Nat):Int):=fun _=>oO
    by_cases hlt:i+1<es.length
    ·have hgo:=hR (i+1) oO oO;clear hR;have e1:=getD_map da.pv es gF hlt;obtain⟨q1,q2,q3,q4,q5⟩:=hq _ (aq gF hlt);have r1:=row1 hlt;obtain⟨x,hx⟩: ∃x,x=es.getD (i+1) gF:=⟨_,rfl⟩;rw[<-hx]at e1 q1 q2 q3 q4 q5 r1;clear hx;obtain⟨gr,tg,ts⟩:=x;simp only at q1 q2 q3 q4 q5;have hgl:gr.toNat<gs.length:=oO;have kg:=hg _ (aq fC hgl);have e3:=getD_map eu gs fC hgl;have hmQ:oe gs c l ⟨gr,tg,ts⟩=ts.foldl (xh (num (gs.getD gr.toNat fC).1) l) (dh (num (gs.getD gr.toNat fC).1) (num tg) (!(c==[])) (num c)):=rfl;obtain⟨z,hz⟩: ∃z,z=gs.getD gr.toNat fC:=⟨_,rfl⟩;rw[<-hz]at q3 q5 kg e3 hmQ;clear hz;obtain⟨m,o⟩:=z;simp only at q3 q5 kg hmQ;obtain⟨vt,gt⟩:=(cH kg.1).1 q3;have m1:=(jm kg.1).2.2.1;have hzc:(!(c==[])&&c==[])=false:=by cases(c==([]:Bytes))<;>rfl
     have xe:=jT kg.2.1 kg.2.2 kg.1 gt vc hzc;rw[eE vt]at xe;have gx0:=gt.dh m1 (!(c==[])) (num c);obtain⟨x0,hx0⟩: ∃x0,x0=dh (num m) (num tg) (!(c==[])) (num c):=⟨_,rfl⟩;rw[<-hx0]at xe gx0 hmQ;rw[hmQ]at r1;clear hx0 hmQ gt vt;have l4:(ts.map eF.pv).length=ts.length:=aB ..;simp only[eu]at e3;simp only[da.pv]at e1;rw[r1]at hgo;refine uV (aN @l1 (aN @l3 (aN @e1 (aN @e3 @l4)))) @fr @ng' @xe oT ?_;refine af (α:=Nat×Nat) (fun s=>ts.length-s.1) (fun s=>⟨[(1, .v (.s c)),(2, .v (.sl (l.map dI))),(3, .p 1000 0 0),(7, .rs 1040 i 0 (i+1) 1),(18, .v (.sl (es.map da.pv))),(19,E' es.length),(20,E' (i+1)),(10, .p 1055 0 0),(11, .v (N s.2)),(41, .v (.sl (ts.map eF.pv))),(42,E' ts.length),(43,E' s.1)],[(1000,⟨0,[.v (.sl (gs.map eu)), .v (.sl (vs.map cl)), .v (.sl (es.map da.pv))],false,none⟩),(1055,⟨0,[.v (.s m), .v (.s o)],false,some 24⟩),(1040,⟨i,bj (fun q=>N (oe gs c l q)) (es.take (i+1)),true,some 22⟩)],1073⟩) (fun s=>s.1<=ts.length/\GP m o s.2/\(ts.drop s.1).foldl (xh (num m) l) s.2=ts.foldl (xh (num m) l) x0) (0,x0) (fun _=>bZ rfl) ⟨aJ _,gx0,rfl⟩ ?_ ?_
     ·(refine AS.Le.of (by first|decide|omega) ?_ ?_<;>simp[dy,dx,aO,az,AV.bd,AV.bd.bdL,u8,ar,ax,aA])
      all_goals (intro c hc;exact cR hc)
     ·rintro⟨j,x⟩ ⟨hj,gx,hf⟩ R' hR';simp only at hj gx hf
      by_cases hjt:j<ts.length
      ·have e2:=getD_map eF.pv ts eR hjt;obtain⟨t1,t2,t3,t4⟩:=q5 _ (aq eR hjt);rw[aT eR hjt]at hf;obtain⟨y,hy⟩: ∃y,y=ts.getD j eR:=⟨_,rfl⟩;rw[<-hy]at e2 t1 t2 t3 t4 hf;obtain⟨b,v,n,a⟩:=y;simp only at t1 t2 t3 t4;rw[List.foldl_cons]at hf;obtain⟨kb1,kb2⟩:=(cH kg.1).1 t3;have hvl:v.toNat<l.length:=oO;have e4:=getD_map dI l kJ hvl;have kr:=hl _ (aq kJ hvl);have hmT:xh (num m) l x ⟨b,v,n,a⟩=x*dh (num m) (dh (num m) (num b) n (num a)) (l.getD v.toNat kJ).1 (num (l.getD v.toNat kJ).2)%num m:=rfl;obtain⟨w,hw⟩: ∃w,w=l.getD v.toNat kJ:=⟨_,rfl⟩;rw[<-hw]at e4 kr hmT;obtain⟨rn,ra⟩:=w;simp only[cJ,aZ,fJ]at t4 kr;have m1:=(jm kg.1).2.2.1;have x1:=jT kg.2.1 kg.2.2 kg.1 kb2 t4.1 t4.2;rw[eE kb1]at x1;have gy:=kb2.dh m1 n (num a);have x2:=jT kg.2.1 kg.2.2 kg.1 gy kr.1 kr.2;have gz:=gy.dh m1 rn (num ra);have x3:=IE kg.2.1 kg.2.2 kg.1 gx gz;have hgo':=hR' (j+1,xh (num m) l x ⟨b,v,n,a⟩) ⟨by show j+1<= _;omega,by rw[hmT];exact gx.mul gz,hf⟩ (by show ts.length-(j+1)<ts.length-j;omega)
       rw[hmT]at hgo';clear hR' hy t3 t4 q5 hf hw kb1 kb2 gx gy gz hmT kr;simp only[eF.pv]at e2;simp only[dI]at e4;have hd3: ∀ _:True,v<(l.length:Int):=fun _=>oO
       generalize dh (num m) (dh (num m) (num b) n (num a)) rn (num ra)=z at*;generalize dh (num m) (num b) n (num a)=y at*;refine wI (aN @l3 (aN @l4 (aN @l5 (aN @e2 @e4)))) @x1 @x2 @x3 oT ?_;refine hgo' _ ?_
       (refine AS.Le.of (by first|decide|omega) ?_ ?_<;>simp[dy,dx,aO,az,AV.bd,AV.bd.bdL,u8,ar,ax,aA])
       all_goals (intro c hc;exact cR hc)
      ·obtain rfl:j=ts.length:=oO;rw[cO]at hf;simp only[List.foldl_nil]at hf;subst hf;refine dH (aN @l3 (aN @l4 (aN @p1 @p2))) ?_;refine hgo _ ?_
       (refine AS.Le.of (by first|decide|omega) ?_ ?_<;>simp[dy,dx,aO,az,AV.bd,AV.bd.bdL,u8,ar,ax,aA])
       all_goals (intro c hc;rcases hc with h|h<;>first|exact cR h|(subst h;rfl))
    ·obtain hjv:i+1=es.length:=oO;rw[hjv,ct]at p1 p2;rw[hjv,ct];have p3:=ff hM es;have p4:chunk 1 es.length (List.flatMap (fun x=>[PV.s (aX (oe gs c l x))]) es)=es.map fun q=>N (oe gs c l q):=dD hM es
     exact gn (aN @l3 (aN @p1 (aN @p2 (aN @p3 (aN @p4 @fk)))))
end Go.Proofs.Tryz
namespace Go.Proofs.Tryz
open Go Go.Dom
def iq (n:Nat):Bytes:=if n<10 then[UInt8.ofNat (48+n)]else[UInt8.ofNat (48+n/10),UInt8.ofNat (48+n%10)]
theorem ow (n:Nat):(iq n).length<=2:=by unfold iq;split<;>simp
theorem UT: ∀n:Fin 10,List.drop n.val (List.take (n.val+1) ([48,49,50,51,52,53,54,55,56,57]:Bytes))=iq n.val:=by decide+kernel
theorem ZM: ∀n:Fin 10,List.drop n.val (List.take (n.val+1) ([48,49,50,51,52,53,54,55,56,57,97,98,99,100,101,102,103,104,105,106,107,108,109,110,111,112,113,114,115,116,117,118,119,120,121,122]:Bytes))=iq n.val:=by decide+kernel
def aav:Bytes:=(List.range 100).flatMap fun n=>[UInt8.ofNat (48+n/10),UInt8.ofNat (48+n%10)]
theorem ZN: ∀n:Fin 100,10<=n.val->List.drop (n.val*2) (List.take (n.val*2+2) aav)=iq n.val:=by decide+kernel
theorem O1 (n:Nat) (hn:n<100):aD 393 [.i .i64 (n:Int)] (.s (iq n)):=by
 by_cases h:n<10
 ·have hb:=ZM ⟨n,h⟩;have t1: ∀ _:True,((n:Int)+1).toNat=n+1:=fun _=>oO
  have d1: ∀ _:True,((n:Int)<10)=True:=fun _=>by simp;omega
  refine eW call393 func393 ?_;repeat' first|simp only[go_sem,seval,t1 oT]|refine oE ?_|apply xX<;>intro hc
  all_goals first|omega|exact congrArg PV.s hb|skip
 ·have hb:=ZN ⟨n,hn⟩ (by simpa using h)
  have t1: ∀ _:True,((n:Int)*2+2).toNat=n*2+2:=fun _=>oO
  have t2: ∀ _:True,((n:Int)*2).toNat=n*2:=fun _=>oO
  refine eW call393 func393 ?_;repeat' first|simp only[go_sem,seval,t1 oT,t2 oT]|refine oE ?_|apply xX<;>intro hc
  all_goals first|omega|exact congrArg PV.s hb|skip
theorem Cw (n:Nat) (hn:n<100):aD 76 [.i .i64 (n:Int)] (.s (iq n)):=by
 have h:=O1 n hn;have hF:aD 291 [.i .i64 (n:Int), .i .i64 10] (.s (iq n)):=by
  refine eW call291 func291 ?_;exact z1 @h
 have hI:aD 173 [.i .i64 (n:Int)] (.s (iq n)):=by
  refine eW call173 func173 ?_;exact z1 @hF
 refine eW call76 func76 ?_;exact z1 @hI
theorem Cc (n:Nat) (h:n<10):aD 95 [.i .i64 (n:Int)] (.s (iq n)):=by
 have hb:=UT ⟨n,h⟩;have t1: ∀ _:True,((n:Int)+1).toNat=n+1:=fun _=>oO
 refine eW call95 func95 ?_;repeat' first|simp only[go_sem,seval,t1 oT]|refine oE ?_|apply xX<;>intro hc
 all_goals first|omega|exact congrArg PV.s hb|skip
theorem wW (n:Nat) (hn:n<100):aD 95 [.i .i64 (n:Int)] (.s (iq n)):=by
 by_cases h:n<10
 ·exact Cc n h
 ·have h1:=Cc (n/10) oO;have hb:=UT ⟨n%10,aL _ oC⟩;have t1: ∀ _:True,(((n%10:Nat):Int)+1).toNat=n%10+1:=fun _=>oO
  have e:iq n=iq (n/10)++iq (n%10):=by
   unfold iq;rw[ae h,ah oO,ah oO];rfl
  simp only at hb;rw[e];refine eW call95 func95 ?_;refine kz (t1 oT) @h1 ?_;have hb':List.drop (n%10) (48::List.take (n%10) ([49,50,51,52,53,54,55,56,57]:Bytes))=iq (n%10):=hb;have l1:=ow (n/10);have l2:=ow (n%10);rw[hb'];exact⟨oO,rfl,rfl⟩
abbrev HC:Bytes:=[118,97,114,105,97,98,108,101]
abbrev FM:Bytes:=[98,97,115,101]
abbrev OK:Bytes:=[99,111,101,102,102,105,99,105,101,110,116]
abbrev Dr:Bytes:=[101,113,117,97,116,105,111,110]
abbrev HB:Bytes:=[116,97,114,103,101,116]
abbrev ud:Bytes:=[103,114,111,117,112,115]
abbrev Ax:Bytes:=[98,111,117,110,100,115]
def rD (st:Bytes) (t:eF):Bytes:=DC (gJ (fI st HC (iq t.var.toNat)) FM [t.base]) OK [(t.neg,t.abs)]
def rC (st:Bytes) (q:da):Bytes:=q.terms.foldl rD (gJ (fI st Dr (iq q.mT.toNat)) HB [q.tgt])
def mQ (st:Bytes) (s:cG):Bytes:=s.eqs.foldl rC (gJ (gJ st ud (s.groups.flatMap fun g=>[g.1,g.2])) Ax s.vars)
structure BdS (s:cG):Prop where
 g: ∃m o,s.groups=[(m,o)]/\m.length<=1000/\o.length<=1000
 v0:s.vars≠[]
 nv:s.vars.length<=64
 v: ∀b∈s.vars,b.length<=1000
 ne:s.eqs.length<=64
 q: ∀q∈s.eqs,0<=q.mT/\q.mT<100/\q.tgt.length<=1000/\ ∃t,q.terms=[t]/\0<=t.var/\t.var<100/\t.base.length<=1000/\t.abs.length<=1000
theorem oZ {α β:Type} (f:β->α->β) (b:β) {l:List α} {i:Nat} (d:α) (h:i<l.length):(l.take (i+1)).foldl f b=f ((l.take i).foldl f b) (l.getD i d):=by
 rw[aQ d h,List.foldl_append];rfl
theorem Em {P:Program} [cu P] {Q:AX->AS->Prop} {nx:Nat} {bf:Option (List Nat)} {nn:Nat} {d:Option Nat} {ops:List kA} {k:Nat} {s:AS} {tr:List (Nat×List Nat×List Nat)} {K:List Fr} {nm:Nat} {f:FuncId} {α:Type} {g:α->PV} {z n ver m:Nat} {l:List α} {gr:Bool} {el:Option TypeId} {x y r:PV}
  (he:ry P f [x,y, .sl (l.map g)] r) (hrow:dY g z) (hr:r.flat=true) (hg:az s.h n=some ⟨ver,bj g l,gr,el⟩) (hm:m=l.length) (hK:RW P Q nx bf nn ops (k+1) (s.uh d (.v r) []) (AT bf k [n] [] tr) K):
  CR P Q nx bf nn nm (.v (.fn (.func f))) [.v x, .v y, .rs n ver 0 m z] d ops k s tr K:=by
 refine qF he ?_ hr ?_
 ·simp[bz,oQ hrow hm hg];rfl
 ·have:[AV.v x,AV.v y,AV.rs n ver 0 m z].flatMap (aV (az s.h) 9)=[n]:=by simp[m9 hrow hm hg];rfl
  rw[this];exact hK

abbrev F0:PV:= .agg [.sl []]
abbrev C0:PV:= .agg [.sl [], .sl []]
theorem IN:aD 269 [F0] (.tup [E 0, .b true]):=by
 refine eW call269 func269 ?_;exact z0
theorem Iz:aD 246 [F0,E 0] (E 0):=by
 refine eW call246 func246 ?_;exact z1 @IN
theorem UY:aD 158 [F0] (.tup [.s [],E 0]):=by
 refine eW call158 func158 ?_;exact z1 @IN
theorem H8:aD 136 [C0] (E 0):=by
 refine eW call136 func136 ?_;exact TK @Iz
theorem Fw:aD 311 [F0] (.tup [E 0, .b true]):=by
 refine eW call311 func311 ?_;exact z0
theorem FF:aD 296 [F0,E 0] (E 0):=by
 refine eW call296 func296 ?_;exact z1 @Fw
theorem Sn:aD 194 [F0] (.tup [.s [],E 0]):=by
 refine eW call194 func194 ?_;exact z1 @Fw
theorem I9:aD 180 [C0] (.s []):=by
 refine eW call180 func180 ?_;exact PG
theorem FA:aD 179 [C0] (E 0):=by
 refine eW call179 func179 ?_;exact Pz @FF @I9
end Go.Proofs.Tryz
namespace Go.Proofs.Tryz
open Go Go.Dom Go.Num
variable {o:Bytes}
theorem Rn {c sl b:Bytes} (hr:sR c sl) (hb:b.length<=16):Nz c sl b<cW:=fh (Nat.sub_le _ _) (xJ hr hb)
theorem Ki {m:Bytes} (hm:m≠[]):(m.getD (m.length-1) 0).toNat%2=num m%2:=by
 obtain⟨r,c,rfl⟩: ∃r c,m=r++[c]:=⟨_,_,(List.dropLast_concat_getLast hm).symm⟩;rw[Ff];have:(r++[c]).getD ((r++[c]).length-1) 0=c:=by simp[bu]
 rw[this];omega
theorem jJ {m:Bytes} (lm:m.length<=8) (lo:o.length<=8):aD 112 [G m o] (E (gE m o)):=by
 have v1:=aK m;have v2:=aK o;unfold gE
 by_cases hv:aa m=true/\aa o=true
 case neg=>
  have:(aa m&&aa o)=false:=by rw[fy];intro g;simp at g;exact hv g
  rw[this];generalize aa m=b1 at*;generalize aa o=b2 at*;refine eW call112 func112 ?_;exact Wu @v1 @v2
 obtain⟨vm,vo⟩:=hv;have nm:=eP lm;have no:=eP lo;rw[vm]at v1;rw[vo]at v2
 by_cases ho:o=[]
 ·subst ho;have e0:(if !(aa m&&aa [])then(3:Int)else if(([]:Bytes)==[])then(if iW m []then 0 else 13)else if num m<=1\/num []<=1\/(num m-1)%num []≠0 then 13 else 0)=if iW m []then 0 else 13:=by
   rw[vm];rfl
  rw[e0]
  by_cases hm:m=[]
  ·subst hm;have:iW [] []=false:=by decide
   rw[this];refine eW call112 func112 ?_;exact AN @nn @v1 @v2
  have hb:(m==([]:Bytes))=false:=by simpa using hm
  have hl:=Ki hm;have hlen:0<m.length:=kq.2 hm;have hix: ∀ _:True,((m.length:Int)-1).toNat=m.length-1:=fun _=>oO
  have hmod: ∀c:UInt8,((c.toNat:Nat):Int).tmod 2=((c.toNat%2:Nat):Int):=fun c=>rfl
  have ho8:=ia (a:=m) (b:=[8]) (bL vm) (.inr oC) oO oC;rw[show num ([8]:Bytes)=8 from rfl]at ho8
  have hle: ∀ _:True,decide (ba (num m) 8<=0)= !decide (8<num m):=fun _=>by
   rw[dK];simp only[cq,fJ,pI];unfold ba;split<;>(try split)<;>omega
  have hg:iW m []=(decide (num m%2=1)&&decide (8<num m)):=by
   unfold iW;rw[vm,lA,Nat.pow_zero,iR];rfl
  rw[hg,<-hl];generalize ba (num m) 8=cm at*;obtain⟨c,hcc⟩: ∃c,c=m.getD (m.length-1) 0:=⟨_,rfl⟩;rw[<-hcc];clear hl hg e0;refine eW call112 func112 ?_;repeat' first|simp only[go_sem,seval,nn,hb,hix oT,<-hcc,hmod,hle oT]|refine cP v1 ?_|refine cP v2 ?_|refine cP ho8 ?_|refine oE ?_|apply xX<;>intro hc
  all_goals first|(simp_all;done)|(simp_all;omega)|skip
 have hb:(o==([]:Bytes))=false:=by simpa using ho
 have hop:num o≠0:=fun e=>ho ((tK vo).1 e)
 have e1:N (num m)= .s m:=congrArg PV.s (gN vm);have e2:N (num o)= .s o:=congrArg PV.s (gN vo);rw[vm,vo,hb];simp only[dE,bQ,bm,an];have q0:(m==([]:Bytes))=decide (num m=0):=by
  have:=wM (num m) 0;rw[gN vm]at this;exact this
 have q1:(m==([1]:Bytes))=decide (num m=1):=by
  have:=wM (num m) 1;rw[gN vm]at this;exact this
 have q2:(o==([1]:Bytes))=decide (num o=1):=by
  have:=wM (num o) 1;rw[gN vo]at this;exact this
 by_cases hbad:num m=0\/num m=1\/num o=1
 ·rw[ah oO];refine eW call112 func112 ?_;repeat' first|simp only[go_sem,seval,hb,q0,q1,q2]|refine cP v1 ?_|refine cP v2 ?_|refine oE ?_|apply xX<;>intro hc
  all_goals (exfalso;simp_all)
 have h1:=oJ m [1] oO oC (show 1<=num m by omega)
 rw[show num ([1]:Bytes)=1 from rfl]at h1
 have h2:=tU (a:=aX (num m-1)) (b:=o) (gZ _) (bL vo) oO (by
  have:=lN (show num m-1<(2^64) by omega)
  omega) oO
 rw[aP]at h2;have hz: ∀ _:True,(aX ((num m-1)%num o)==([]:Bytes))=decide ((num m-1)%num o=0):=fun _=>by
  rw[dK];simp[gM]
 have t0:decide (num m=0)=false:=aH oO;have t1:decide (num m=1)=false:=aH oO;have t2:decide (num o=1)=false:=aH oO;have ei:(if num m<=1\/num o<=1\/(num m-1)%num o≠0 then(13:Int)else 0)=if(num m-1)%num o=0 then 0 else 13:=by
  by_cases g:(num m-1)%num o=0
  ·rw[ae oO,ah g]
  ·rw[ah oO,ae g]
 rw[ei];refine eW call112 func112 ?_;exact Wt (aN @hb (aN @q0 (aN @q1 (aN @q2 (aN @t0 (aN @t1 (aN @t2 (hz oT)))))))) @v1 @v2 @h1 @h2
theorem oI {m:Bytes} (lm:m.length<=8) (o:Bytes) {x:Bytes} (hE:gE m o=0) (vx:aa x=true):aD 113 [G m o, .s x] (.b (iV m o x)):=by
 by_cases ho:o=[]
 ·subst ho;obtain⟨vm,-,m1,hr,-⟩:=jm hE;have hg:=hr rfl;have lx:=cT vx;have hor:=ia (bL vx) (bL vm) oO oO;have hcm:=Ol (mV vx) (mV vm);rw[eE vx,eE vm]at hcm;have hlt: ∀ _:True,decide (ba (num x) (num m)<0)=decide (num x<num m):=fun _=>dLt _ _
  have e:iV m [] x=(!(x==[])&&decide (num x<num m)&&decide (Nat.gcd (num x) (num m)=1)):=by
   simp[iV,Ao,hg,vx]
  rw[e];generalize ba (num x) (num m)=cm at*;refine eW call113 func113 ?_;repeat' first|simp only[go_sem,seval,nn,hlt oT,RK]|refine cP hor ?_|refine cP hcm ?_|refine oE ?_|apply xX<;>intro hc
  all_goals simp_all
  all_goals (intros;omega)
 ·have hb:(o==([]:Bytes))=false:=by simpa using ho
  have h:=Ok lm o x;unfold iV;rw[hb];simp only[bm,an];refine eW call113 func113 ?_;exact mi @hb @h
theorem oH {m:Bytes} (lm:m.length<=8) (lo:o.length<=8) (x:Bytes):aD 81 [G m o, .s x] (.b (jn m o x)):=by
 have h1:=jJ lm lo;have hv:=aK x
 by_cases hE:gE m o=0
 ·rw[hE]at h1
  by_cases vx:aa x=true
  ·have h2:=oI lm o hE vx;rw[vx]at hv;unfold jn;rw[hE];generalize iV m o x=b at*;refine eW call81 func81 ?_;exact zs4 @h1 @hv @h2 oT
  ·have vx:aa x=false:=by simpa using vx
   rw[vx]at hv;have:jn m o x=false:=by
    rw[fy];intro g;simp only[jn,aZ]at g;have:=((cH hE).1 g.2).1;rw[vx]at this;cases this
   rw[this];refine eW call81 func81 ?_;exact z2 @h1 @hv
 ·have:jn m o x=false:=by simp[jn,hE]
  rw[this];generalize gE m o=z at*;refine eW call81 func81 ?_;exact Zj @h1
theorem B9 {m:Bytes} (lm:m.length<=8) {x:Nat} {ng:Bool} {e:Bytes} (hE:gE m o=0) (hx:GP m o x) (he:aa e=true) (hz:(ng&&e==[])=false):aD 115 [G m o,N x, .agg [.b ng, .s e]] (N (dh (num m) x ng (num e))):=by
 obtain⟨vm,-,m1,-,-⟩:=jm hE;have hp:=KQ (m:=num m) hx.lt he hz (eP lm) hx.Tb;rw[eE vm]at hp;refine eW call115 func115 ?_;exact z1 @hp
noncomputable def iY (M:Nat):Nat->List (Nat×Bool×Bytes)->Nat
 |x,[]=>x
 |x,(a,ng,e)::r=>iY M (x*dh M a ng (num e)%M) r
def MK (p:Nat×Bool×Bytes):PV:= .agg [.b p.2.1, .s p.2.2]
theorem Bn {m:Bytes} (lm:m.length<=8) (lo:o.length<=8) (hE:gE m o=0) (l:List (Nat×Bool×Bytes)) (hl:l.length<1000000) (h: ∀p∈l,GP m o p.1/\aa p.2.2=true/\(p.2.1&&p.2.2==[])=false):aD 53 [G m o, .sl (l.map fun p=>N p.1), .sl (l.map MK)] (.tup [N (iY (num m) 1 l),E 0]):=by
 obtain⟨vm,-,m1,-,-⟩:=jm hE;have nm:=eP lm;have hck:=jJ lm lo;rw[hE]at hck;have d0:Nat×Bool×Bytes:=(0,false,[]);have l1:(l.map fun p=>N p.1).length=l.length:=aB ..
 have l2:(l.map MK).length=l.length:=aB ..;have g1: ∀{i:Nat},i<l.length->(l.map fun p=>N p.1).getD i .fn0=N (l.getD i d0).1:=fun hi=>getD_map (fun p=>N p.1) l d0 hi
 have g2: ∀{i:Nat},i<l.length->(l.map MK).getD i .fn0=MK (l.getD i d0):=fun hi=>getD_map MK l d0 hi
 refine eW call53 func53 ?_;refine pU ?_;refine af (α:=Nat) (fun i=>l.length-i) (fun i=>⟨[(1, .v (.sl (l.map fun p=>N p.1))),(2, .v (.sl (l.map MK))),(3, .p 1000 0 0),(8,E' i)],[(1000,⟨0,[.v (.s m), .v (.s o)],false,none⟩)],_⟩) (fun i=>i<=l.length) 0 (fun _=>ay _) (aJ _) ?_ ?_
 ·exact lE
 ·intro i hi R hR
  by_cases hlt:i<l.length
  ·obtain⟨k1,k2,k3⟩:=h _ (aq d0 hlt);have e1:=g1 hlt;have hv:=aK (aX (l.getD i d0).1);have:=k1.lt;rw[vN (show(l.getD i d0).1<(2^64) by omega)]at hv
   clear k1 k2 k3 this;have hgo:=hR (i+1) oO oO;exact gV (aN @l1 @e1) @hgo @hv
  ·obtain rfl:i=l.length:=oO;refine cU @l1 ?_;refine af (α:=Nat) (fun i=>l.length-i) (fun i=>⟨[(1, .v (.sl (l.map fun p=>N p.1))),(2, .v (.sl (l.map MK))),(3, .p 1000 0 0),(9,E' i)],[(1000,⟨0,[.v (.s m), .v (.s o)],false,none⟩)],_⟩) (fun i=>i<=l.length) 0 (fun _=>ay _) (aJ _) ?_ ?_
   ·exact lE
   ·intro i hi R hR
    by_cases hlt:i<l.length
    ·obtain⟨k1,k2,k3⟩:=h _ (aq d0 hlt);have e1:=g2 hlt;have hv:=iw (l.getD i d0).2.1 (l.getD i d0).2.2;rw[k2,k3]at hv;clear k1 k2 k3;have hgo:=hR (i+1) oO oO;repeat' first|simp only[go_sem,seval,l2,e1,MK]|refine cP hv ?_|refine oE ?_|apply xX<;>intro hc
     refine hgo _ ?_;exact lE
    ·obtain rfl:i=l.length:=oO;refine nc (aN @l1 @l2) @hck ?_;refine af (α:=Nat) (fun i=>l.length-i) (fun i=>⟨[(1, .v (.sl (l.map fun p=>N p.1))),(2, .v (.sl (l.map MK))),(3, .p 1000 0 0),(11,E' i)],[(1000,⟨0,[.v (.s m), .v (.s o)],false,none⟩)],_⟩) (fun i=>i<=l.length) 0 (fun _=>ay _) (aJ _) ?_ ?_
     ·exact lE
     ·intro i hi R hR
      by_cases hlt:i<l.length
      ·obtain⟨k1,k2,k3⟩:=h _ (aq d0 hlt);have e1:=g1 hlt;have hh:=k1.has hE lm;have hv:=oI lm o (x:=aX (l.getD i d0).1) hE ((cH hE).1 hh).1;rw[hh]at hv;clear k1 k2 k3 hh;have hgo:=hR (i+1) oO oO;exact gV (aN @l1 @e1) @hgo @hv
      ·obtain rfl:i=l.length:=oO;refine cU @l1 ?_;refine af (α:=Nat×Nat) (fun s=>l.length-s.1) (fun s=>⟨[(1, .v (.sl (l.map fun p=>N p.1))),(2, .v (.sl (l.map MK))),(3, .p 1000 0 0),(12, .v (N s.2)),(13,E' s.1)],[(1000,⟨0,[.v (.s m), .v (.s o)],false,none⟩)],_⟩) (fun s=>s.1<=l.length/\s.2<num m/\iY (num m) s.2 (l.drop s.1)=iY (num m) 1 l) (0,1) (fun _=>ay _) ⟨aJ _,m1,rfl⟩ ?_ ?_
       ·(refine AS.Le.of (by first|decide|omega) ?_ ?_<;>simp[dy,dx,aO,az,AV.bd,AV.bd.bdL,u8,ar,ax,aA])
        all_goals rfl
       ·rintro⟨i,x⟩ ⟨hi,hx,hf⟩ R hR;simp only at hi hx hf
        by_cases hlt:i<l.length
        ·obtain⟨k1,k2,k3⟩:=h _ (aq d0 hlt);have e1:=g1 hlt;have e2:=g2 hlt;rw[aT d0 hlt]at hf;have hraw:=B9 lm hE k1 k2 k3;have hpl:dh (num m) (l.getD i d0).1 (l.getD i d0).2.1 (num (l.getD i d0).2.2)<num m:=aL _ oO;have hgo:=hR (i+1,x*dh (num m) (l.getD i d0).1 (l.getD i d0).2.1 (num (l.getD i d0).2.2)%num m) ⟨by show i+1<= _;omega,aL _ oO,hf⟩ (by show l.length-(i+1)<l.length-i;omega)
         clear hf hR k1 k2 k3;generalize dh (num m) (l.getD i d0).1 (l.getD i d0).2.1 (num (l.getD i d0).2.2)=y at*;have hmm:=Ou (a:=x) (b:=y) (m:=num m) oO oO nm oO;rw[eE vm]at hmm;repeat' first|simp only[go_sem,seval,l1,l2,e1,e2,MK]|refine cP hraw ?_|refine cP hmm ?_|refine oE ?_|apply xX<;>intro hc
         refine hgo _ ?_;exact lE
        ·obtain rfl:i=l.length:=oO;rw[cO]at hf;simp only[iY]at hf;rw[<-hf];exact gn @l1
theorem At {s:cG} (hs:WC s) (hv: ∀b∈s.vars,aa b=true):aD 297 [s.pv] (.b true):=by
 obtain⟨gs,vs,es⟩:=s;obtain⟨hg,hq,ng,nv,ne⟩:=hs;simp only at hg hv hq ng nv ne;have l1:(gs.map eu).length=gs.length:=aB ..;have l2:(vs.map cl).length=vs.length:=aB ..;have l3:(es.map da.pv).length=es.length:=aB ..;unfold cG.pv;simp only;refine eW call297 func297 ?_;refine pU ?_;refine af (α:=Nat) (fun i=>gs.length-i) (fun i=>⟨[(1, .p 1000 0 0),(3,E' i)],[(1000,⟨0,[.v (.sl (gs.map eu)), .v (.sl (vs.map cl)), .v (.sl (es.map da.pv))],false,none⟩)],_⟩) (fun i=>i<=gs.length) 0 (fun _=>ay _) (aJ _) ?_ ?_
 ·exact lE
 ·intro i hi R hR
  by_cases hlt:i<gs.length
  ·have e1:=getD_map eu gs fC hlt;have k:=hg _ (aq fC hlt);have hgo:=hR (i+1) oO oO;obtain⟨x,hx⟩: ∃x,x=gs.getD i fC:=⟨_,rfl⟩;rw[<-hx]at e1 k;obtain⟨m,o⟩:=x;obtain⟨vm,vo,-⟩:=jm k.1;have v1:=aK m;have v2:=aK o;rw[vm]at v1;rw[vo]at v2;clear hR hx k vm vo;simp only[eu]at e1;exact rv (aN @l1 @e1) @hgo @v1 @v2
  ·obtain rfl:i=gs.length:=oO;refine cU @l1 ?_;refine af (α:=Nat) (fun i=>vs.length-i) (fun i=>⟨[(1, .p 1000 0 0),(4,E' i)],[(1000,⟨0,[.v (.sl (gs.map eu)), .v (.sl (vs.map cl)), .v (.sl (es.map da.pv))],false,none⟩)],_⟩) (fun i=>i<=vs.length) 0 (fun _=>ay _) (aJ _) ?_ ?_
   ·exact lE
   ·intro i hi R hR
    by_cases hlt:i<vs.length
    ·have e1:=getD_map cl vs [] hlt;have k:=hv _ (aq [] hlt);have hgo:=hR (i+1) oO oO;obtain⟨x,hx⟩: ∃x,x=vs.getD i []:=⟨_,rfl⟩;rw[<-hx]at e1 k;have v1:=aK x;rw[k]at v1;clear hR hx k;simp only[cl]at e1;exact gV (aN @l2 @e1) @hgo @v1
    ·obtain rfl:i=vs.length:=oO;refine cU @l2 ?_;refine af (α:=Nat) (fun i=>es.length-i) (fun i=>⟨[(1, .p 1000 0 0),(5,E' i)],[(1000,⟨0,[.v (.sl (gs.map eu)), .v (.sl (vs.map cl)), .v (.sl (es.map da.pv))],false,none⟩)],_⟩) (fun i=>i<=es.length) 0 (fun _=>ay _) (aJ _) ?_ ?_
     ·exact lE
     ·intro i hi R hR
      by_cases hlt:i<es.length
      ·have e1:=getD_map da.pv es gF hlt;obtain⟨q1,q2,q3,q4,q5⟩:=hq _ (aq gF hlt);have hgo:=hR (i+1) oO oO;obtain⟨x,hx⟩: ∃x,x=es.getD i gF:=⟨_,rfl⟩;rw[<-hx]at e1 q1 q2 q3 q4 q5;obtain⟨gr,tg,ts⟩:=x;simp only at q1 q2 q3 q4 q5;have hgE:=(hg _ (aq fC (show gr.toNat<gs.length by omega))).1
       have v1:=aK tg;rw[kM hgE q3]at v1;have l4:(ts.map eF.pv).length=ts.length:=aB ..;simp only[da.pv]at e1;clear hR hx q3;have hd1:decide (gr<0)=false:=aH oO;have hd2:decide (gr>=(gs.length:Int))=false:=aH oO;refine nc (aN @l1 (aN @l3 (aN @l4 (aN @e1 (aN @hd1 @hd2))))) @v1 ?_;refine af (α:=Nat) (fun i=>ts.length-i) (fun j=>⟨[(1, .p 1000 0 0),(5,E' i),(6, .p 1025 0 0),(7,E' j)],[(1000,⟨0,[.v (.sl (gs.map eu)), .v (.sl (vs.map cl)), .v (.sl (es.map da.pv))],false,none⟩),(1025,⟨0,[.v (.i .i64 gr), .v (.s tg), .v (.sl (ts.map eF.pv))],false,some 154⟩)],_⟩) (fun i=>i<=ts.length) 0 (fun _=>ay _) (aJ _) ?_ ?_
       ·exact lE
       ·intro j hj R' hR'
        by_cases hjt:j<ts.length
        ·have e2:=getD_map eF.pv ts eR hjt;obtain⟨t1,t2,t3,t4⟩:=q5 _ (aq eR hjt);have hgo':=hR' (j+1) oO oO;obtain⟨y,hy⟩: ∃y,y=ts.getD j eR:=⟨_,rfl⟩;rw[<-hy]at e2 t1 t2 t3 t4;obtain⟨b,v,n,a⟩:=y;simp only at t1 t2 t3 t4;have v2:=aK b;rw[kM hgE t3]at v2;have v3:=iw n a;rw[show(aa a&& !(n&&a==[]))=true from t4]at v3
         simp only[eF.pv]at e2;clear hR' hy t3 t4 q5;have hd3:decide (v<0)=false:=aH oO;have hd4:decide (v>=(vs.length:Int))=false:=aH oO;refine pV (aN @l2 (aN @l4 (aN @e2 (aN @hd3 @hd4)))) @v2 @v3 ?_;refine hgo' _ ?_;exact lE
        ·obtain rfl:j=ts.length:=oO;exact jC (aN @l3 @l4) @hgo
      ·obtain rfl:i=es.length:=oO;exact gn @l3
theorem FH {s:cG} (hs:WC s):aD 399 [s.pv] (.b false):=by
 obtain⟨gs,vs,es⟩:=s;obtain⟨hg,hq,ng,nv,ne⟩:=hs;simp only at hg hq ng nv ne;have l1:(gs.map eu).length=gs.length:=aB ..;have l2:(vs.map cl).length=vs.length:=aB ..;have l3:(es.map da.pv).length=es.length:=aB ..;unfold cG.pv;simp only;refine eW call399 func399 ?_;refine pU ?_;refine af (α:=Nat) (fun i=>es.length-i) (fun i=>⟨[(1, .p 1000 0 0),(3,E' i)],[(1000,⟨0,[.v (.sl (gs.map eu)), .v (.sl (vs.map cl)), .v (.sl (es.map da.pv))],false,none⟩)],_⟩) (fun i=>i<=es.length) 0 (fun _=>ay _) (aJ _) ?_ ?_
 ·exact lE
 ·intro i hi R hR
  by_cases hlt:i<es.length
  ·have e1:=getD_map da.pv es gF hlt;have q4:=(hq _ (aq gF hlt)).2.2.2.1;have hgo:=hR (i+1) oO oO;obtain⟨x,hx⟩: ∃x,x=es.getD i gF:=⟨_,rfl⟩;rw[<-hx]at e1 q4;obtain⟨gr,tg,ts⟩:=x;simp only at q4;have l4:(ts.map eF.pv).length=ts.length:=aB ..;simp only[da.pv]at e1;clear hR hx;exact jC (aN @l3 (aN @l4 @e1)) @hgo
  ·obtain rfl:i=es.length:=oO;have hd:decide ((es.length:Int)>64)=false:=aH oO;exact gn (aN @l1 (aN @l2 (aN @l3 @hd)))
theorem tX {s:cG} (hs:WC s):aD 400 [s.pv] (.b true):=by
 obtain⟨gs,vs,es⟩:=s;obtain⟨hg,hq,ng,nv,ne⟩:=hs;simp only at hg hq ng nv ne;have l1:(gs.map eu).length=gs.length:=aB ..;have l3:(es.map da.pv).length=es.length:=aB ..;unfold cG.pv;simp only;refine eW call400 func400 ?_;refine pU ?_;refine af (α:=Nat) (fun i=>gs.length-i) (fun i=>⟨[(1, .p 1000 0 0),(3,E' i)],[(1000,⟨0,[.v (.sl (gs.map eu)), .v (.sl (vs.map cl)), .v (.sl (es.map da.pv))],false,none⟩)],_⟩) (fun i=>i<=gs.length) 0 (fun _=>ay _) (aJ _) ?_ ?_
 ·exact lE
 ·intro i hi R hR
  by_cases hlt:i<gs.length
  ·have e1:=getD_map eu gs fC hlt;have k:=hg _ (aq fC hlt);have hgo:=hR (i+1) oO oO;obtain⟨x,hx⟩: ∃x,x=gs.getD i fC:=⟨_,rfl⟩;rw[<-hx]at e1 k;obtain⟨m,o⟩:=x;have v1:=jJ k.2.1 k.2.2;rw[k.1]at v1;clear hR hx k;simp only[eu]at e1;exact gV (aN @l1 @e1) @hgo @v1
  ·obtain rfl:i=gs.length:=oO;refine cU @l1 ?_;refine af (α:=Nat) (fun i=>es.length-i) (fun i=>⟨[(1, .p 1000 0 0),(4,E' i)],[(1000,⟨0,[.v (.sl (gs.map eu)), .v (.sl (vs.map cl)), .v (.sl (es.map da.pv))],false,none⟩)],_⟩) (fun i=>i<=es.length) 0 (fun _=>ay _) (aJ _) ?_ ?_
   ·exact lE
   ·intro i hi R hR
    by_cases hlt:i<es.length
    ·have e1:=getD_map da.pv es gF hlt;obtain⟨q1,q2,q3,q4,q5⟩:=hq _ (aq gF hlt);have hgo:=hR (i+1) oO oO;obtain⟨x,hx⟩: ∃x,x=es.getD i gF:=⟨_,rfl⟩;rw[<-hx]at e1 q1 q2 q3 q4 q5;obtain⟨gr,tg,ts⟩:=x;simp only at q1 q2 q3 q4 q5;have hgl:gr.toNat<gs.length:=oO;have kg:=hg _ (aq fC hgl);have e3:=getD_map eu gs fC hgl;obtain⟨z,hz⟩: ∃z,z=gs.getD gr.toNat fC:=⟨_,rfl⟩;rw[<-hz]at q3 q5 kg e3;obtain⟨m,o⟩:=z;simp only at q3 q5 kg;have hIn: ∀{x:Bytes},iV m o x=true->jn m o x=true:=fun h=>by simp[jn,kg.1,h]
     have v1:=oH kg.2.1 kg.2.2 tg;rw[hIn q3]at v1;have v2:=oH kg.2.1 kg.2.2;have l4:(ts.map eF.pv).length=ts.length:=aB ..;simp only[eu]at e3;simp only[da.pv]at e1;clear hR hx hz q3;refine nc (aN @l1 (aN @l3 (aN @e1 @e3))) @v1 ?_;refine af (α:=Nat) (fun i=>ts.length-i) (fun j=>⟨[(1, .p 1000 0 0),(4,E' i),(5, .p 1019 0 0),(6, .p 1027 0 0),(7,E' j)],[(1000,⟨0,[.v (.sl (gs.map eu)), .v (.sl (vs.map cl)), .v (.sl (es.map da.pv))],false,none⟩),(1019,⟨0,[.v (.i .i64 gr), .v (.s tg), .v (.sl (ts.map eF.pv))],false,some 154⟩),(1027,⟨0,[.v (.s m), .v (.s o)],false,some 24⟩)],_⟩) (fun i=>i<=ts.length) 0 (fun _=>ay _) (aJ _) ?_ ?_
     ·exact lE
     ·intro j hj R' hR'
      by_cases hjt:j<ts.length
      ·have e2:=getD_map eF.pv ts eR hjt;have t3:=(q5 _ (aq eR hjt)).2.2.1;have hgo':=hR' (j+1) oO oO;obtain⟨y,hy⟩: ∃y,y=ts.getD j eR:=⟨_,rfl⟩;rw[<-hy]at e2 t3;obtain⟨b,v,n,a⟩:=y;simp only at t3;have v3:=v2 b;rw[hIn t3]at v3;simp only[eF.pv]at e2;clear hR' hy t3 q5;refine kz (aN @l4 @e2) @v3 ?_;refine hgo' _ ?_;exact lE
      ·obtain rfl:j=ts.length:=oO;exact jC @l4 @hgo
    ·obtain rfl:i=es.length:=oO;exact gn @l3
theorem qw (s:cG) (hl:s.groups.length<1000000):aD 294 [s.pv] (.s (bA s.groups)):=by
 obtain⟨gs,vs,es⟩:=s;simp only at hl;have l1:(gs.map eu).length=gs.length:=aB ..;unfold cG.pv;simp only;refine eW call294 func294 ?_;refine pU ?_;refine af (α:=Nat) (fun i=>gs.length-i) (fun i=>⟨[(1, .p 1000 0 0),(3,E' i)],[(1000,⟨0,[.v (.sl (gs.map eu)), .v (.sl (vs.map cl)), .v (.sl (es.map da.pv))],false,none⟩)],_⟩) (fun i=>i<=gs.length/\bA (gs.drop i)=bA gs) 0 (fun _=>ay _) ⟨aJ _,rfl⟩ ?_ ?_
 ·exact lE
 ·rintro i ⟨hi,hf⟩ R hR;rw[<-hf]
  by_cases hlt:i<gs.length
  ·have e1:=getD_map eu gs fC hlt;have hgo:=hR (i+1);rw[<-hf]at hgo;rw[aT fC hlt]at hgo⊢;obtain⟨x,hx⟩: ∃x,x=gs.getD i fC:=⟨_,rfl⟩;rw[<-hx]at e1 hgo⊢;clear hx hf hR;obtain⟨m,o⟩:=x;simp only[bA]at hgo⊢;simp only[eu]at e1
   by_cases ho:o=[]
   ·subst ho;simp only[au]at hgo⊢;have hgo:=hgo ⟨oO,trivial⟩ oO;exact jC (aN @l1 (aN @e1 @nn)) @hgo
   ·have hb:(o==([]:Bytes))=false:=by simpa using ho
    rw[ae ho];exact gn (aN @l1 (aN @e1 @hb))
  ·obtain rfl:i=gs.length:=oO;rw[cO];exact gn @l1
end Go.Proofs.Tryz
namespace Go.Proofs.Tryz
open Go Go.Dom
def GU (l:List (Bool×Bytes)):PV:= .sl (l.map dI)
theorem yM (l:List (Bytes)) (f:FuncId) (p:Bytes->Bool) (hl:l.length<4611686018427387904) (h: ∀x,aD f [PV.s x] (.b (p x))):aD 389 [.sl (l.map PV.s), .fn (.func f)] (E (eN p 0 l)):=by
 have hlm:(l.map PV.s).length=l.length:=aB ..;refine eW call389 func389 ?_;refine cU @hlm ?_;refine af (α:=Nat) (fun i=>l.length-i) (fun i=>⟨[(0, .v (.sl (l.map PV.s))),(1, .v (.fn (.func f))),(7, .v (.i .i64 l.length)),(8, .v (.i .i64 (i:Nat)))],[],_⟩) (fun i=>i<=l.length/\eN p i (l.drop i)=eN p 0 l) 0 (fun _=>ay _) ⟨aJ _,rfl⟩ ?_ ?_
 ·exact lE
 ·rintro i ⟨hi,hx⟩ R hR;rw[<-hx]
  by_cases hlt:i<l.length
  ·have e1:=getD_map PV.s l [] hlt;have hf:=h (l.getD i []);have hgo:=hR (i+1);rw[<-hx,aT [] hlt]at hgo;rw[aT [] hlt];simp only[eN]at hgo⊢;clear hx hR h;generalize p (l.getD i [])=b at*;generalize l.getD i []=x at*;cases b
   ·have hgo:=hgo ⟨oO,rfl⟩ oO;exact gV (aN @hlm @e1) @hgo @hf
   ·exact mi (aN @hlm @e1) @hf
  ·obtain rfl:i=l.length:=oO;rw[cO];repeat' first|simp only[go_sem,seval,hlm]|refine oE ?_|apply xX<;>intro hc
   all_goals simp[eN]
theorem np (l:List (Bytes)) (f:FuncId) (p:Bytes->Bool) (hl:l.length<4611686018427387904) (h: ∀x,aD f [PV.s x] (.b (p x))):aD 281 [.sl (l.map PV.s), .fn (.func f)] (.b (l.any p)):=by
 have hi:=yM l f p hl h;have e:decide (eN p 0 l>=0)=l.any p:=by
  rw[dK,decide_eq_true_iff];exact iX
 refine eW call281 func281 ?_;exact mi @e @hi
theorem AY (l:List (List (Bool×Bytes))) (f:FuncId) (c:List PV) (p:List (Bool×Bytes)->Bool) (hl:l.length<4611686018427387904) (h: ∀x∈l,aD f (GU x::c) (.b (p x))):aD 250 [.sl (l.map GU), .fc f [] c] (E (eN p 0 l)):=by
 have hlm:(l.map GU).length=l.length:=aB ..;refine eW call250 func250 ?_;refine cU @hlm ?_;refine af (α:=Nat) (fun i=>l.length-i) (fun i=>⟨[(0, .v (.sl (l.map GU))),(1, .v (.fc f [] c)),(7, .v (.i .i64 l.length)),(8, .v (.i .i64 (i:Nat)))],[],_⟩) (fun i=>i<=l.length/\eN p i (l.drop i)=eN p 0 l) 0 (fun _=>ay _) ⟨aJ _,rfl⟩ ?_ ?_
 ·exact lE
 ·rintro i ⟨hi,hx⟩ R hR;rw[<-hx]
  by_cases hlt:i<l.length
  ·have e1:=getD_map GU l [] hlt;have hf:=h (l.getD i []) (aq [] hlt);have hgo:=hR (i+1);rw[<-hx,aT [] hlt]at hgo;rw[aT [] hlt];simp only[eN]at hgo⊢;clear hx hR h;generalize p (l.getD i [])=b at*;generalize l.getD i []=x at*;simp only[GU]at e1 hf;cases b
   ·have hgo:=hgo ⟨oO,rfl⟩ oO;repeat' first|simp only[go_sem,seval,hlm,e1]|(refine jb hf (nM _ _) ?_)|refine oE ?_|apply xX<;>intro hc
    refine hgo _ ?_;exact lE
   ·repeat' first|simp only[go_sem,seval,hlm,e1]|(refine jb hf (nM _ _) ?_)|refine oE ?_|apply xX<;>intro hc
    all_goals rfl
  ·obtain rfl:i=l.length:=oO;rw[cO];repeat' first|simp only[go_sem,seval,hlm]|refine oE ?_|apply xX<;>intro hc
   all_goals simp[eN]
theorem om (l:List (List (Bool×Bytes))) (f:FuncId) (c:List PV) (p:List (Bool×Bytes)->Bool) (hl:l.length<4611686018427387904) (h: ∀x∈l,aD f (GU x::c) (.b (p x))):aD 140 [.sl (l.map GU), .fc f [] c] (.b (l.any p)):=by
 have hi:=AY l f c p hl h;have e:decide (eN p 0 l>=0)=l.any p:=by
  rw[dK,decide_eq_true_iff];exact iX
 refine eW call140 func140 ?_;exact mi @e @hi
theorem MW (x:Bool×Bytes):aD 412 [dI x] (.b (!cJ x)):=by
 obtain⟨n,a⟩:=x;have hv:=hO n a;have e:cJ (n,a)=(aa a&& !(n&&a==[])):=rfl;rw[e];generalize (aa a&& !(n&&a==[]))=b at*;simp only[dI];refine eW call412 func412 ?_;exact z1 @hv
abbrev Xj:PV:= .pt (.agg [.fn (.func 412)]) 0
theorem EP (l:List (Bool×Bytes)) (hl:l.length<4611686018427387904):aD 413 [GU l,Xj] (.b (!l.all cJ)):=by
 have h1:=gD l _ _ hl MW;rw[nu]at h1;unfold GU;refine eW call413 func413 ?_;exact z1 @h1
theorem MX (a:Bytes):aD 414 [.s a] (.b (!aa a)):=by
 have hv:=aS a;generalize aa a=b at*;refine eW call414 func414 ?_;exact z1 @hv
theorem Zo (f:FuncId) (c:List PV):aD 281 [.sl [], .fc f [] c] (.b false):=by
 have hi:aD 389 [.sl [], .fc f [] c] (E (-1)):=by
  refine eW call389 func389 ?_;exact PG
 refine eW call281 func281 ?_;exact z1 @hi
theorem Cr (l:List (Bool×Bytes)) (hl:l.length<1000000):aD 161 [.sl (l.map dI)] (.b (l.all cJ)):=by
 have l5:(l.map dI).length=l.length:=aB ..;refine eW call161 func161 ?_;repeat' first|simp only[go_sem,seval,l5]|refine oE ?_|apply xX<;>intro hc
 refine af (α:=Nat) (fun i=>l.length-i) (fun i=>⟨[(5, .v (.sl (l.map dI))),(6,E' l.length),(7,E' i)],[],_⟩) (fun i=>i<=l.length/\(l.drop i).all cJ=l.all cJ) 0 (fun _=>ay _) ⟨aJ _,rfl⟩ ?_ ?_
 ·exact lE
 ·rintro i ⟨hi,hf⟩ R hR;rw[<-hf]
  by_cases hlt:i<l.length
  ·have e1:=getD_map dI l kJ hlt;have hgo:=hR (i+1);rw[<-hf]at hgo;rw[aT kJ hlt,List.all_cons]at hgo⊢;obtain⟨x,hx⟩: ∃x,x=l.getD i kJ:=⟨_,rfl⟩;rw[<-hx]at e1 hgo⊢;clear hx hf hR;obtain⟨n,a⟩:=x;have hv:=hO n a;have e:cJ (n,a)=(aa a&& !(n&&a==[])):=rfl;rw[e]at hgo⊢;clear e;simp only[dI]at e1;generalize (aa a&& !(n&&a==[]))=b at*;cases b
   ·repeat' first|simp only[go_sem,seval,l5,e1]|refine cP hv ?_|refine oE ?_|apply xX<;>intro hc
    all_goals simp
   ·have hgo:=hgo ⟨oO,by simp⟩ oO
    repeat' first|simp only[go_sem,seval,l5,e1]|refine cP hv ?_|refine oE ?_|apply xX<;>intro hc
    refine hgo _ ?_;exact lE
  ·obtain rfl:i=l.length:=oO;rw[cO];repeat' first|simp only[go_sem,seval,l5]|refine oE ?_|apply xX<;>intro hc
   all_goals rfl
theorem tY (l:List (Bool×Bytes)) (hl:l.length<1000000):aD 197 [.sl (l.map dI)] (.b (l.all cJ)):=by
 have l5:(l.map dI).length=l.length:=aB ..;refine eW call197 func197 ?_;refine pU ?_;refine af (α:=Nat) (fun i=>l.length-i) (fun i=>⟨[(0, .v (.sl (l.map dI))),(3,E' i)],[],_⟩) (fun i=>i<=l.length/\(l.drop i).all cJ=l.all cJ) 0 (fun _=>ay _) ⟨aJ _,rfl⟩ ?_ ?_
 ·exact lE
 ·rintro i ⟨hi,hf⟩ R hR;rw[<-hf]
  by_cases hlt:i<l.length
  ·have e1:=getD_map dI l kJ hlt;have hgo:=hR (i+1);rw[<-hf]at hgo;rw[aT kJ hlt,List.all_cons]at hgo⊢;obtain⟨x,hx⟩: ∃x,x=l.getD i kJ:=⟨_,rfl⟩;rw[<-hx]at e1 hgo⊢;clear hx hf hR;obtain⟨n,a⟩:=x;have hv:=iw n a;have e:cJ (n,a)=(aa a&& !(n&&a==[])):=rfl;rw[e]at hgo⊢;clear e;simp only[dI]at e1;generalize (aa a&& !(n&&a==[]))=b at*;cases b
   ·repeat' first|simp only[go_sem,seval,l5,e1]|refine cP hv ?_|refine oE ?_|apply xX<;>intro hc
    all_goals simp
   ·have hgo:=hgo ⟨oO,by simp⟩ oO
    exact gV (aN @l5 @e1) @hgo @hv
  ·obtain rfl:i=l.length:=oO;rw[cO];exact gn @l5
